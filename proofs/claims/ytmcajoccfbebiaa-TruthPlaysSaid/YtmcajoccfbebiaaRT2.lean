/- witanref29's Book: row, Plain. -/
import Derived.Test.YtmcajoccfbebiaaRT1
import Derived.Deep.AppendLies
namespace Go.Proofs.Ytmcajoccfbebiaa
open Go Go.RowKit Go.MapKept Go.Sort

theorem rinfo : (Try.prog.info? 111).map (fun i => (i.zero, i.size, i.bytes)) = some (some (.agg #[.int .i64 0, .bool false, .slice none 0 0]), 3, 40) := by kernel_rfl
theorem rinfo_parts : ∃ i, Try.prog.info? 111 = some i ∧ i.zero = some (.agg #[.int .i64 0, .bool false, .slice none 0 0]) ∧ i.size = 3 ∧ i.bytes = 40 := by
  have h := rinfo
  cases hi : Try.prog.info? 111 with
  | none => simp [hi] at h
  | some i =>
    simp [hi] at h
    exact ⟨i, rfl, h.1, h.2.1, h.2.2⟩
theorem RefB.cap {B : Nat} {w : World} {r : Nat} {a : Option Addr} {n c : Nat} {L : List Sp} (h : RefB B w r (.slice a n c) L) : n ≤ c ∧ n = L.length ∧ (a = none → c = 0) := by
  rcases h.row.2 with ⟨e, h0⟩ | ⟨g, cap, cur, e, _, _, hc, _⟩
  · cases e
    exact ⟨by omega, by omega, fun _ => rfl⟩
  · cases e
    exact ⟨hc, rfl, fun h => by cases h⟩
theorem rflat_one {B : Nat} {w : World} (L : List Sp) (h : ∀ p ∈ L, p.js.length ≤ 1000 ∧ OfIs B w p.v p.js) : ∀ u ∈ rflat L, u.oneCell' = true := by
  induction L with
  | nil => simp [rflat]
  | cons p L ih =>
    intro u hu
    unfold rflat at hu
    simp only [List.mem_cons] at hu
    rcases hu with rfl | rfl | rfl | hu
    · rfl
    · rfl
    · obtain ⟨a, c, e⟩ := (h p (.head _)).2.form
      rw [e]
      rfl
    · exact ih (fun p hp => h p (.tail _ hp)) u hu
/-- The part of the row behind a place, as append reads it. -/
theorem RefB.from {B : Nat} {w : World} {r g c : Nat} {L : List Sp} (h : RefB B w r (.slice (some ⟨g, 0, none⟩) L.length c) L) (k : Nat) : ∀ j u, (rflat (L.drop k))[j]? = some u → w.cell? ((⟨g, k * 3, none⟩ : Addr).add j) = some u := fun j u hu => by
  have hc := h.row.cells (g := g) rfl
  rw [← rflat_drop, List.getElem?_drop] at hu
  have := hc _ _ hu
  rw [Addr.add_lit, Nat.zero_add] at this
  rw [Addr.add_lit]
  exact this
theorem RefB.upto {B : Nat} {w : World} {r g c : Nat} {L : List Sp} (h : RefB B w r (.slice (some ⟨g, 0, none⟩) L.length c) L) (k : Nat) : ∀ j u, (rflat (L.take k))[j]? = some u → w.cell? ((⟨g, 0, none⟩ : Addr).add j) = some u := fun j u hu => by
  have hc := h.row.cells (g := g) rfl
  rw [← rflat_take] at hu
  have h1 := (List.getElem?_eq_some_iff.1 hu).1
  rw [List.length_take] at h1
  rw [List.getElem?_take_of_lt (by omega)] at hu
  exact hc _ _ hu

theorem OfIs.nil (B : Nat) (w : World) : OfIs B w (.slice none 0 0) [] := ⟨by simpa [jflat] using World.ownsRow_nil w B 53 2, by simp⟩
/-- The book's row is written over. -/
theorem RefB.set {B r : Nat} {w X : World} {v v' : Value} {L L' : List Sp} (h : RefB B w r v L) (hb : Below w.heap.size w X) (hrow : X.ownsRow B 111 3 v' L'.length (rflat L')) (hjs : ∀ p ∈ L', p.js.length ≤ 1000 ∧ OfIs B X p.v p.js)
    (hl : L'.length ≤ 1000) (ha : (L'.map Sp.id).Pairwise (· < ·)) : RefB B (X.setCell ⟨r, 0, none⟩ v') r v' L' ∧ Only [r] w (X.setCell ⟨r, 0, none⟩ v') := by
  have hblk := (hb.block r (lt_of_heap h.blk)).trans h.blk
  have ho : Only [r] X (X.setCell ⟨r, 0, none⟩ v') := (Only.refl [r] X).setCell (.inl (by simp)) v'
  have hk : ∀ {t : TypeId} {s n : Nat} {u : Value} {xs : List Value}, t ≠ 70 → X.ownsRow B t s u n xs → (X.setCell ⟨r, 0, none⟩ v').ownsRow B t s u n xs := fun ht hr => owns_only hr ho (fun k hk hm => by
    simp only [List.mem_singleton] at hm
    subst hm
    exact owns_not hr hblk ht hk)
  refine ⟨⟨by rw [setCell_heap hblk]; rfl, h.hB, hk (by decide) hrow, fun p hp => ⟨(hjs p hp).1, ⟨hk (by decide) (hjs p hp).2.own, fun j hj => ⟨((hjs p hp).2.tups j hj).1, hk (by decide) ((hjs p hp).2.tups j hj).2⟩⟩⟩, hl, ha⟩, (Only.of_below hb _).trans ho⟩
/-- Where a fact comes. -/
def insR (L : List Sp) (k : Nat) (q : Sp) : List Sp := L.take k ++ [q] ++ L.drop k
theorem insR_asc {L : List Sp} {k : Nat} {q : Sp} (h : (L.map Sp.id).Pairwise (· < ·)) (h1 : ∀ j (hj : j < L.length), j < k → L[j].id < q.id) (h2 : ∀ hk : k < L.length, q.id < L[k].id) : ((insR L k q).map Sp.id).Pairwise (· < ·) := by
  have hp := List.pairwise_iff_getElem.1 h
  simp only [List.length_map, List.getElem_map] at hp
  unfold insR
  rw [List.map_append, List.map_append, List.pairwise_append, List.pairwise_append]
  refine ⟨⟨?_, by simp, fun x hx y hy => ?_⟩, ?_, fun x hx y hy => ?_⟩
  · rw [List.map_take]
    exact h.sublist (List.take_sublist _ _)
  · simp only [List.map_cons, List.map_nil, List.mem_singleton] at hy
    subst hy
    obtain ⟨p, hp1, rfl⟩ := List.mem_map.1 hx
    obtain ⟨j, hj, rfl⟩ := List.getElem_of_mem hp1
    rw [List.length_take] at hj
    rw [List.getElem_take]
    exact h1 j (by omega) (by omega)
  · rw [List.map_drop]
    exact h.sublist (List.drop_sublist _ _)
  · obtain ⟨p, hp1, rfl⟩ := List.mem_map.1 hy
    obtain ⟨j, hj, rfl⟩ := List.getElem_of_mem hp1
    rw [List.length_drop] at hj
    rw [List.getElem_drop]
    have hkl : k < L.length := by omega
    have hkj : L[k].id ≤ L[k + j].id := by
      rcases Nat.eq_zero_or_pos j with q | q
      · subst q
        exact Int.le_refl _
      · have := hp k (k + j) hkl (by omega) (by omega)
        omega
    have hqk := h2 hkl
    rcases List.mem_append.1 hx with hx | hx
    · obtain ⟨p, hp1, rfl⟩ := List.mem_map.1 hx
      obtain ⟨i, hi, rfl⟩ := List.getElem_of_mem hp1
      rw [List.length_take] at hi
      rw [List.getElem_take]
      have := h1 i (by omega) (by omega)
      omega
    · simp only [List.map_cons, List.map_nil, List.mem_singleton] at hx
      subst hx
      omega

/-- Where a slice lies. -/
def AvV (A : Nat → Prop) (v : Value) : Prop := ∀ a n c, v = .slice (some a) n c → A a.block
theorem AvV.none (A : Nat → Prop) (n c : Nat) : AvV A (.slice none n c) := fun _ _ _ e => by cases e
theorem AvV.own {A : Nat → Prop} {w : World} {B n s : Nat} {t : TypeId} {v : Value} {xs : List Value} (h : w.ownsRow B t s v n xs) (hA : ∀ k, B ≤ k → A k) : AvV A v := fun a n c e => hA _ (by
  subst e
  rcases h.2 with ⟨q, _⟩ | ⟨g, cap, cur, q, hb, _⟩
  · cases q
  · cases q
    exact hb)

theorem rrow_end {B r k : Nat} {w X : World} {v v' : Value} {L : List Sp} {id : Int} (h : RefB B w r v L) (hk : k ≤ L.length) (hlo : ∀ j (hj : j < L.length), j < k → L[j].id < id) (hgt : ∀ hk : k < L.length, id < L[k].id) (hb : Below w.heap.size w X)
    (hrow : X.ownsRow w.heap.size 111 3 v' (k + 1 + (L.length - k)) (rflat (L.take k) ++ [.int .i64 id, .bool false, .slice none 0 0] ++ rflat (L.drop k))) (hl : L.length < 900) :
    RefB B (X.setCell ⟨r, 0, none⟩ v') r v' (insR L k ⟨id, false, [], .slice none 0 0⟩) ∧ Only [r] w (X.setCell ⟨r, 0, none⟩ v') ∧ (∃ hk : k < (insR L k ⟨id, false, [], .slice none 0 0⟩).length, (insR L k ⟨id, false, [], .slice none 0 0⟩)[k].id = id) ∧ ∀ A : Nat → Prop, (∀ k, w.heap.size ≤ k → A k) → AvV A v' := by
  have hlen : (insR L k ⟨id, false, [], .slice none 0 0⟩).length = k + 1 + (L.length - k) := by
    unfold insR
    rw [List.length_append, List.length_append, List.length_take, List.length_drop, Nat.min_eq_left hk]
    rfl
  have hfl : rflat (insR L k ⟨id, false, [], .slice none 0 0⟩) = rflat (L.take k) ++ [.int .i64 id, .bool false, .slice none 0 0] ++ rflat (L.drop k) := by
    unfold insR
    rw [rflat_append, rflat_append]
    rfl
  have hr := lt_of_heap h.blk
  have hhB := h.hB
  obtain ⟨h1, h2⟩ := h.set (v' := v') (L' := insR L k ⟨id, false, [], .slice none 0 0⟩) hb (by rw [hlen, hfl]; exact owns_base hrow (by omega)) (fun p hp => by
    unfold insR at hp
    rcases List.mem_append.1 hp with hp | hp
    · rcases List.mem_append.1 hp with hp | hp
      · have := h.js p (List.mem_of_mem_take hp)
        exact ⟨this.1, this.2.below hb⟩
      · simp only [List.mem_singleton] at hp
        subst hp
        exact ⟨by simp, OfIs.nil B X⟩
    · have := h.js p (List.mem_of_mem_drop hp)
      exact ⟨this.1, this.2.below hb⟩) (by rw [hlen]; omega) (insR_asc h.asc hlo hgt)
  refine ⟨h1, h2, ⟨by rw [hlen]; omega, ?_⟩, fun A hA => AvV.own hrow hA⟩
  have : (insR L k ⟨id, false, [], .slice none 0 0⟩)[k]? = some ⟨id, false, [], .slice none 0 0⟩ := by
    unfold insR
    rw [List.append_assoc, List.getElem?_append_right (by simp; omega), List.length_take, Nat.min_eq_left hk, Nat.sub_self]
    rfl
  obtain ⟨_, e⟩ := List.getElem?_eq_some_iff.1 this
  rw [e]

set_option maxRecDepth 100000 in
set_option maxHeartbeats 4000000 in
theorem rrow_any (B r : Nat) (v : Value) (L : List Sp) (id : Int) (w : World) (h : RefB B w r v L) (hl : L.length < 900) :
    Calls Try.prog 94 #[.pointer (some ⟨r, 0, none⟩), .int .i64 id] w fun e w' => ∃ k : Nat, e = .returned (.int .i64 k) ∧ ∃ (v' : Value) (L' : List Sp), RefB B w' r v' L' ∧ Only [r] w w' ∧ (∃ hk : k < L'.length, L'[k].id = id) ∧ (L' = L ∨ (L' = insR L k ⟨id, false, [], .slice none 0 0⟩ ∧ ∀ p ∈ L, p.id ≠ id))  ∧ ∀ A : Nat → Prop, (∀ k, w.heap.size ≤ k → A k) → AvV A v → AvV A v' := by
  obtain ⟨va, vc, rfl⟩ := h.form
  have c0 := (cells1b h.blk).1
  have hlen := h.len
  obtain ⟨hcap, _, hnone⟩ := h.cap
  have hf := rfind_any B r _ L id w h
  have Hf := hide hf
  have H := hide h
  clear h hf
  go_enter Try.func94, Try.ntmps94
  go_wp2_with fail
  (with_reducible refine Hf.out.mono ?_)
  rintro e w' ⟨⟨k, hk, rfl, hid⟩ | ⟨rfl, hno⟩, rfl⟩
  · have Hid0 : Hid (∃ hk : k < L.length, L[k].id = id) := hide ⟨hk, hid⟩
    have hk0 : (0 : Int) ≤ (k : Int) := by omega
    clear hid
    go_wp2
    go_ret
    exact ⟨k, rfl, _, L, H.out, Only.refl _ _, Hid0.out, .inl rfl, fun _ _ h => h⟩
  · have Hno := hide hno
    clear hno
    go_wp2
    go_loopw [5] (fun vi wr => ∃ k : Nat, k ≤ L.length ∧ vi = .int .i64 k ∧ Hid ((∀ j (hj : j < L.length), j < k → L[j].id < id) ∧ w = wr)) (fun vi _ => L.length - (intOf vi).toNat)
    case atStart => exact ⟨0, Nat.zero_le _, rfl, fun j _ h => by omega, rfl⟩
    case round =>
      obtain ⟨k, hk, rfl, hq⟩ := hrel
      obtain ⟨hlo, rfl⟩ := hq.out
      have Hlo := hide hlo
      clear hlo hq
      have hkc : (k : Int) ≤ (vc : Int) := by omega
      by_cases hst : ∃ hlk : k < L.length, L[k].id < id
      · obtain ⟨hlk, hlt⟩ := hst
        obtain ⟨g, cap, e, d0, _, _⟩ := H.out.at hlk
        injection e with e1 e2 e3
        subst e1 e3
        clear e2
        obtain ⟨z, hz⟩ : ∃ z, L[k].id = z := ⟨_, rfl⟩
        rw [hz] at d0 hlt
        have Hz := hide hz
        clear hz
        go_wp2
        go_roundw
        case rel =>
          refine ⟨k + 1, by omega, by go_num, fun j hj hjk => ?_, by trivial⟩
          rcases Nat.lt_or_ge j k with q | q
          · exact Hlo.out j hj q
          · obtain rfl : j = k := by omega
            rw [Hz.out]
            exact hlt
        case measure => simp [intOf]; omega
      · by_cases hlk : k < L.length
        · obtain ⟨g, cap, e, d0, _, _⟩ := H.out.at hlk
          injection e with e1 e2 e3
          subst e1 e3
          clear e2
          have hne := Hno.out _ (List.getElem_mem hlk)
          have hnl : ¬ L[k].id < id := fun q => hst ⟨hlk, q⟩
          obtain ⟨z, hz⟩ : ∃ z, L[k].id = z := ⟨_, rfl⟩
          rw [hz] at d0 hnl
          have Hz := hide hz
          rw [hz] at hne
          have hgt : ∀ hk : k < L.length, id < L[k].id := fun _ => by rw [hz]; omega
          have Hgt := hide hgt
          have Hk := hide hk
          clear hz hst hgt hne
          go_upto_region 7 with fail
          obtain ⟨i0, hi, hz0, hz1, hz2⟩ := rinfo_parts
          have Hi := hide hi
          have Hz0 := hide hz0
          have Hz1 := hide hz1
          have Hz2 := hide hz2
          have hown0 : (w.alloc (Obj.cells #[] 111)).ownsRow w.heap.size 111 3 (.slice (some ⟨w.heap.size, 0, none⟩) 0 0) 0 [] := ⟨rfl, .inr ⟨w.heap.size, 0, #[], rfl, Nat.le_refl _, (MapKept.heap_alloc w _).1, Nat.le_refl _, Nat.zero_le _, rfl, rfl⟩⟩
          have hb1 : Below w.heap.size w (w.alloc (Obj.cells #[] 111)) := ((Only.refl [] w).alloc _).below
          have H1 := hide (H.out.below hb1)
          have c1 := (cells1b H1.out.blk).1
          have Hown0 := hide hown0
          have Hb1 := hide hb1
          have hsz1 : w.heap.size ≤ (w.alloc (Obj.cells #[] 111)).heap.size := by simp
          have hkl2 : (rflat (L.take k)).length = k * 3 := by rw [rflat_length, List.length_take]; omega
          have hkl3 : (rflat (L.drop k)).length = (L.length - k) * 3 := by rw [rflat_length, List.length_drop]
          have h1a := rflat_one (L.take k) (fun p hp => H.out.js p (List.mem_of_mem_take hp))
          have h1b := rflat_one (L.drop k) (fun p hp => H.out.js p (List.mem_of_mem_drop hp))
          have Hkl2 := hide hkl2
          have Hkl3 := hide hkl3
          have H1a := hide h1a
          have H1b := hide h1b
          clear hi hz0 hz1 hz2 hown0 hb1 d0 hkl2 hkl3 h1a h1b
          go_wp2_with (first
            | (at_builtin; refine wpList_append_own _ rfl (.tmp 34) (.tmp 40) _ rfl w.heap.size 111 i0 (.agg #[.int .i64 0, .bool false, .slice none 0 0]) 3 40 Try.underlying68 Hi.out Hz0.out Hz1.out Hz2.out rfl (by decide) (.slice (some ⟨w.heap.size, 0, none⟩) 0 0) 0 [] rfl Hown0.out ⟨g, 0, none⟩ k vc (rflat (L.take k)) rfl Hkl2.out (H1.out.upto k) H1a.out (by unfold maxLen; omega) (by omega) hsz1 ?_; intro v2 X1 ho1 hg1 _; simp only [Nat.zero_add, List.nil_append] at ho1; obtain ⟨xa, xc, rfl⟩ := row_form ho1; have Ho1 := hide ho1; have Hx1 := hide (Hb1.out.grown hg1 hsz1 (fun k e => by simp only [Value.ownBlock, Option.some.injEq] at e; omega)); have hx1s : w.heap.size ≤ X1.heap.size := Hx1.out.size; clear ho1 hg1)
            | (at_builtin; refine wpList_append_own _ rfl (.tmp 42) (.tmp 45) _ rfl w.heap.size 111 i0 (.agg #[.int .i64 0, .bool false, .slice none 0 0]) 3 40 Try.underlying68 Hi.out Hz0.out Hz1.out Hz2.out rfl (by decide) (.slice xa k xc) k (rflat (L.take k)) rfl (Ho1.out.alloc _) ⟨X1.heap.size, 0, none⟩ 1 1 [.int .i64 id, .bool false, .slice none 0 0] rfl rfl (World.news_of_block (cs := #[.int .i64 id, .bool false, .slice none 0 0]) (heap_alloc_new X1 _)) (by simp [Value.oneCell']) (by unfold maxLen; omega) (by omega) (by simp; omega) ?_; intro v3 X2 ho2 hg2 _; obtain ⟨ya, yc, rfl⟩ := row_form ho2; have Ho2 := hide ho2; have Hx2 := hide ((Hx1.out.alloc hx1s _).grown hg2 (by simp; omega) (fun k e => row_own Ho1.out k e)); have hx2s : w.heap.size ≤ X2.heap.size := Hx2.out.size; have H2 := hide (H.out.below Hx2.out); clear ho2 hg2 c1; have c1 := (cells1b H2.out.blk).1)
            | (at_builtin; refine wpList_append_own _ rfl (.tmp 48) (.tmp 54) _ rfl w.heap.size 111 i0 (.agg #[.int .i64 0, .bool false, .slice none 0 0]) 3 40 Try.underlying68 Hi.out Hz0.out Hz1.out Hz2.out rfl (by decide) (.slice ya (k + 1) yc) (k + 1) _ rfl Ho2.out ⟨g, k * 3, none⟩ (L.length - k) (vc - k) (rflat (L.drop k)) rfl Hkl3.out (H2.out.from k) H1b.out (by unfold maxLen; omega) (by omega) hx2s ?_; intro v4 X3 ho3 hg3 _; have Hx3 := hide (Hx2.out.grown hg3 hx2s (fun k e => row_own Ho2.out k e)); have Hfin := hide (rrow_end H.out Hk.out Hlo.out Hgt.out Hx3.out ho3 hl); obtain ⟨za, zc, rfl⟩ := row_form ho3; clear ho3 hg3 c1; obtain ⟨c1, cf1⟩ := cells1b (H.out.below Hx3.out).blk))
          go_ret
          exact ⟨k, rfl, _, _, Hfin.out.1, Hfin.out.2.1, Hfin.out.2.2.1, .inr ⟨rfl, Hno.out⟩, fun A hA _ => Hfin.out.2.2.2 A hA⟩
        · obtain rfl : k = L.length := by omega
          have hgt : ∀ hk : L.length < L.length, id < L[L.length].id := fun h => absurd h (Nat.lt_irrefl _)
          have Hgt := hide hgt
          have Hk := hide hk
          clear hst hgt
          cases va with
          | some ga =>
            obtain ⟨g, rfl⟩ : ∃ g, ga = ⟨g, 0, none⟩ := by
              rcases H.out.row.2 with ⟨e, _⟩ | ⟨g, cap, cur, e, _⟩
              · cases e
              · cases e
                exact ⟨g, rfl⟩
            rcases Nat.eq_or_lt_of_le hcap with hvc | hvc
            · subst hvc
              go_upto_region 7 with fail
              obtain ⟨i0, hi, hz0, hz1, hz2⟩ := rinfo_parts
              have Hi := hide hi
              have Hz0 := hide hz0
              have Hz1 := hide hz1
              have Hz2 := hide hz2
              have hown0 : (w.alloc (Obj.cells #[] 111)).ownsRow w.heap.size 111 3 (.slice (some ⟨w.heap.size, 0, none⟩) 0 0) 0 [] := ⟨rfl, .inr ⟨w.heap.size, 0, #[], rfl, Nat.le_refl _, (MapKept.heap_alloc w _).1, Nat.le_refl _, Nat.zero_le _, rfl, rfl⟩⟩
              have hb1 : Below w.heap.size w (w.alloc (Obj.cells #[] 111)) := ((Only.refl [] w).alloc _).below
              have H1 := hide (H.out.below hb1)
              have c1 := (cells1b H1.out.blk).1
              have Hown0 := hide hown0
              have Hb1 := hide hb1
              have hsz1 : w.heap.size ≤ (w.alloc (Obj.cells #[] 111)).heap.size := by simp
              have hkl2 : (rflat (L.take L.length)).length = L.length * 3 := by rw [rflat_length, List.length_take]; omega
              have hkl3 : (rflat (L.drop L.length)).length = (L.length - L.length) * 3 := by rw [rflat_length, List.length_drop]
              have h1a := rflat_one (L.take L.length) (fun p hp => H.out.js p (List.mem_of_mem_take hp))
              have h1b := rflat_one (L.drop L.length) (fun p hp => H.out.js p (List.mem_of_mem_drop hp))
              have Hkl2 := hide hkl2
              have Hkl3 := hide hkl3
              have H1a := hide h1a
              have H1b := hide h1b
              clear hi hz0 hz1 hz2 hown0 hb1 hkl2 hkl3 h1a h1b
              go_wp2_with (first
                | (at_builtin; refine wpList_append_own _ rfl (.tmp 34) (.tmp 40) _ rfl w.heap.size 111 i0 (.agg #[.int .i64 0, .bool false, .slice none 0 0]) 3 40 Try.underlying68 Hi.out Hz0.out Hz1.out Hz2.out rfl (by decide) (.slice (some ⟨w.heap.size, 0, none⟩) 0 0) 0 [] rfl Hown0.out ⟨g, 0, none⟩ L.length L.length (rflat (L.take L.length)) rfl Hkl2.out (H1.out.upto L.length) H1a.out (by unfold maxLen; omega) (by omega) hsz1 ?_; intro v2 X1 ho1 hg1 _; simp only [Nat.zero_add, List.nil_append] at ho1; obtain ⟨xa, xc, rfl⟩ := row_form ho1; have Ho1 := hide ho1; have Hx1 := hide (Hb1.out.grown hg1 hsz1 (fun k e => by simp only [Value.ownBlock, Option.some.injEq] at e; omega)); have hx1s : w.heap.size ≤ X1.heap.size := Hx1.out.size; clear ho1 hg1)
                | (at_builtin; refine wpList_append_own _ rfl (.tmp 42) (.tmp 45) _ rfl w.heap.size 111 i0 (.agg #[.int .i64 0, .bool false, .slice none 0 0]) 3 40 Try.underlying68 Hi.out Hz0.out Hz1.out Hz2.out rfl (by decide) (.slice xa L.length xc) L.length (rflat (L.take L.length)) rfl (Ho1.out.alloc _) ⟨X1.heap.size, 0, none⟩ 1 1 [.int .i64 id, .bool false, .slice none 0 0] rfl rfl (World.news_of_block (cs := #[.int .i64 id, .bool false, .slice none 0 0]) (heap_alloc_new X1 _)) (by simp [Value.oneCell']) (by unfold maxLen; omega) (by omega) (by simp; omega) ?_; intro v3 X2 ho2 hg2 _; obtain ⟨ya, yc, rfl⟩ := row_form ho2; have Ho2 := hide ho2; have Hx2 := hide ((Hx1.out.alloc hx1s _).grown hg2 (by simp; omega) (fun k e => row_own Ho1.out k e)); have hx2s : w.heap.size ≤ X2.heap.size := Hx2.out.size; have H2 := hide (H.out.below Hx2.out); clear ho2 hg2 c1; have c1 := (cells1b H2.out.blk).1)
                | (at_builtin; refine wpList_append_own _ rfl (.tmp 48) (.tmp 54) _ rfl w.heap.size 111 i0 (.agg #[.int .i64 0, .bool false, .slice none 0 0]) 3 40 Try.underlying68 Hi.out Hz0.out Hz1.out Hz2.out rfl (by decide) (.slice ya (L.length + 1) yc) (L.length + 1) _ rfl Ho2.out _ _ _ [] rfl (by simp) (by simp) (by simp) (by unfold maxLen; omega) (by omega) hx2s ?_; intro v4 X3 ho3 hg3 _; have Hx3 := hide (Hx2.out.grown hg3 hx2s (fun k e => row_own Ho2.out k e)); have Hfin := hide (rrow_end H.out Hk.out Hlo.out Hgt.out Hx3.out (by simpa [rflat] using ho3) hl); obtain ⟨za, zc, rfl⟩ := row_form ho3; clear ho3 hg3 c1; obtain ⟨c1, cf1⟩ := cells1b (H.out.below Hx3.out).blk))
              go_ret
              exact ⟨L.length, rfl, _, _, Hfin.out.1, Hfin.out.2.1, Hfin.out.2.2.1, .inr ⟨rfl, Hno.out⟩, fun A hA _ => Hfin.out.2.2.2 A hA⟩
            · have hvi : (L.length : Int) < (vc : Int) := by omega
              have hvz : vc - L.length ≠ 0 := by omega
              go_upto_region 7 with fail
              obtain ⟨i0, hi, hz0, hz1, hz2⟩ := rinfo_parts
              have Hi := hide hi
              have Hz0 := hide hz0
              have Hz1 := hide hz1
              have Hz2 := hide hz2
              have hown0 : (w.alloc (Obj.cells #[] 111)).ownsRow w.heap.size 111 3 (.slice (some ⟨w.heap.size, 0, none⟩) 0 0) 0 [] := ⟨rfl, .inr ⟨w.heap.size, 0, #[], rfl, Nat.le_refl _, (MapKept.heap_alloc w _).1, Nat.le_refl _, Nat.zero_le _, rfl, rfl⟩⟩
              have hb1 : Below w.heap.size w (w.alloc (Obj.cells #[] 111)) := ((Only.refl [] w).alloc _).below
              have H1 := hide (H.out.below hb1)
              have c1 := (cells1b H1.out.blk).1
              have Hown0 := hide hown0
              have Hb1 := hide hb1
              have hsz1 : w.heap.size ≤ (w.alloc (Obj.cells #[] 111)).heap.size := by simp
              have hkl2 : (rflat (L.take L.length)).length = L.length * 3 := by rw [rflat_length, List.length_take]; omega
              have hkl3 : (rflat (L.drop L.length)).length = (L.length - L.length) * 3 := by rw [rflat_length, List.length_drop]
              have h1a := rflat_one (L.take L.length) (fun p hp => H.out.js p (List.mem_of_mem_take hp))
              have h1b := rflat_one (L.drop L.length) (fun p hp => H.out.js p (List.mem_of_mem_drop hp))
              have Hkl2 := hide hkl2
              have Hkl3 := hide hkl3
              have H1a := hide h1a
              have H1b := hide h1b
              clear hi hz0 hz1 hz2 hown0 hb1 hkl2 hkl3 h1a h1b
              go_wp2_with (first
                | (at_builtin; refine wpList_append_own _ rfl (.tmp 34) (.tmp 40) _ rfl w.heap.size 111 i0 (.agg #[.int .i64 0, .bool false, .slice none 0 0]) 3 40 Try.underlying68 Hi.out Hz0.out Hz1.out Hz2.out rfl (by decide) (.slice (some ⟨w.heap.size, 0, none⟩) 0 0) 0 [] rfl Hown0.out ⟨g, 0, none⟩ L.length vc (rflat (L.take L.length)) rfl Hkl2.out (H1.out.upto L.length) H1a.out (by unfold maxLen; omega) (by omega) hsz1 ?_; intro v2 X1 ho1 hg1 _; simp only [Nat.zero_add, List.nil_append] at ho1; obtain ⟨xa, xc, rfl⟩ := row_form ho1; have Ho1 := hide ho1; have Hx1 := hide (Hb1.out.grown hg1 hsz1 (fun k e => by simp only [Value.ownBlock, Option.some.injEq] at e; omega)); have hx1s : w.heap.size ≤ X1.heap.size := Hx1.out.size; clear ho1 hg1)
                | (at_builtin; refine wpList_append_own _ rfl (.tmp 42) (.tmp 45) _ rfl w.heap.size 111 i0 (.agg #[.int .i64 0, .bool false, .slice none 0 0]) 3 40 Try.underlying68 Hi.out Hz0.out Hz1.out Hz2.out rfl (by decide) (.slice xa L.length xc) L.length (rflat (L.take L.length)) rfl (Ho1.out.alloc _) ⟨X1.heap.size, 0, none⟩ 1 1 [.int .i64 id, .bool false, .slice none 0 0] rfl rfl (World.news_of_block (cs := #[.int .i64 id, .bool false, .slice none 0 0]) (heap_alloc_new X1 _)) (by simp [Value.oneCell']) (by unfold maxLen; omega) (by omega) (by simp; omega) ?_; intro v3 X2 ho2 hg2 _; obtain ⟨ya, yc, rfl⟩ := row_form ho2; have Ho2 := hide ho2; have Hx2 := hide ((Hx1.out.alloc hx1s _).grown hg2 (by simp; omega) (fun k e => row_own Ho1.out k e)); have hx2s : w.heap.size ≤ X2.heap.size := Hx2.out.size; have H2 := hide (H.out.below Hx2.out); clear ho2 hg2 c1; have c1 := (cells1b H2.out.blk).1)
                | (at_builtin; refine wpList_append_own _ rfl (.tmp 48) (.tmp 54) _ rfl w.heap.size 111 i0 (.agg #[.int .i64 0, .bool false, .slice none 0 0]) 3 40 Try.underlying68 Hi.out Hz0.out Hz1.out Hz2.out rfl (by decide) (.slice ya (L.length + 1) yc) (L.length + 1) _ rfl Ho2.out _ _ _ [] rfl (by simp) (by simp) (by simp) (by unfold maxLen; omega) (by omega) hx2s ?_; intro v4 X3 ho3 hg3 _; have Hx3 := hide (Hx2.out.grown hg3 hx2s (fun k e => row_own Ho2.out k e)); have Hfin := hide (rrow_end H.out Hk.out Hlo.out Hgt.out Hx3.out (by simpa [rflat] using ho3) hl); obtain ⟨za, zc, rfl⟩ := row_form ho3; clear ho3 hg3 c1; obtain ⟨c1, cf1⟩ := cells1b (H.out.below Hx3.out).blk))
              go_ret
              exact ⟨L.length, rfl, _, _, Hfin.out.1, Hfin.out.2.1, Hfin.out.2.2.1, .inr ⟨rfl, Hno.out⟩, fun A hA _ => Hfin.out.2.2.2 A hA⟩
          | none =>
            obtain rfl : vc = 0 := hnone rfl
            obtain rfl : L = [] := by
              rcases H.out.row.2 with ⟨_, h0⟩ | ⟨g, cap, cur, e, _⟩
              · exact List.eq_nil_of_length_eq_zero h0
              · cases e
            go_upto_region 7 with fail
            obtain ⟨i0, hi, hz0, hz1, hz2⟩ := rinfo_parts
            have Hi := hide hi
            have Hz0 := hide hz0
            have Hz1 := hide hz1
            have Hz2 := hide hz2
            have hown0 : (w.alloc (Obj.cells #[] 111)).ownsRow w.heap.size 111 3 (.slice (some ⟨w.heap.size, 0, none⟩) 0 0) 0 [] := ⟨rfl, .inr ⟨w.heap.size, 0, #[], rfl, Nat.le_refl _, (MapKept.heap_alloc w _).1, Nat.le_refl _, Nat.zero_le _, rfl, rfl⟩⟩
            have hb1 : Below w.heap.size w (w.alloc (Obj.cells #[] 111)) := ((Only.refl [] w).alloc _).below
            have H1 := hide (H.out.below hb1)
            have c1 := (cells1b H1.out.blk).1
            have Hown0 := hide hown0
            have Hb1 := hide hb1
            have hsz1 : w.heap.size ≤ (w.alloc (Obj.cells #[] 111)).heap.size := by simp
            clear hi hz0 hz1 hz2 hown0 hb1
            go_wp2_with (first
              | (at_builtin; refine wpList_append_any _ rfl (.tmp 34) (.tmp 40) _ rfl w.heap.size 111 i0 (.agg #[.int .i64 0, .bool false, .slice none 0 0]) 3 40 Try.underlying68 Hi.out Hz0.out Hz1.out Hz2.out rfl (by decide) (.slice (some ⟨w.heap.size, 0, none⟩) 0 0) 0 [] rfl Hown0.out (.slice none 0 0) 0 [] rfl (.inl ⟨rfl, rfl, rfl⟩) (by simp) (by unfold maxLen; omega) (by omega) hsz1 ?_; intro v2 X1 ho1 hg1; simp only [Nat.zero_add, List.nil_append] at ho1; obtain ⟨xa, xc, rfl⟩ := row_form ho1; have Ho1 := hide ho1; have Hx1 := hide (Hb1.out.grown hg1 hsz1 (fun k e => by simp only [Value.ownBlock, Option.some.injEq] at e; omega)); have hx1s : w.heap.size ≤ X1.heap.size := Hx1.out.size; clear ho1 hg1)
              | (at_builtin; refine wpList_append_own _ rfl (.tmp 42) (.tmp 45) _ rfl w.heap.size 111 i0 (.agg #[.int .i64 0, .bool false, .slice none 0 0]) 3 40 Try.underlying68 Hi.out Hz0.out Hz1.out Hz2.out rfl (by decide) (.slice xa 0 xc) 0 [] rfl (Ho1.out.alloc _) ⟨X1.heap.size, 0, none⟩ 1 1 [.int .i64 id, .bool false, .slice none 0 0] rfl rfl (World.news_of_block (cs := #[.int .i64 id, .bool false, .slice none 0 0]) (heap_alloc_new X1 _)) (by simp [Value.oneCell']) (by unfold maxLen; omega) (by omega) (by simp; omega) ?_; intro v3 X2 ho2 hg2 _; simp only [Nat.zero_add, List.nil_append] at ho2; obtain ⟨ya, yc, rfl⟩ := row_form ho2; have Ho2 := hide ho2; have Hx2 := hide ((Hx1.out.alloc hx1s _).grown hg2 (by simp; omega) (fun k e => row_own Ho1.out k e)); have hx2s : w.heap.size ≤ X2.heap.size := Hx2.out.size; have H2 := hide (H.out.below Hx2.out); clear ho2 hg2 c1; have c1 := (cells1b H2.out.blk).1)
              | (at_builtin; refine wpList_append_any _ rfl (.tmp 48) (.tmp 54) _ rfl w.heap.size 111 i0 (.agg #[.int .i64 0, .bool false, .slice none 0 0]) 3 40 Try.underlying68 Hi.out Hz0.out Hz1.out Hz2.out rfl (by decide) (.slice ya 1 yc) 1 _ rfl Ho2.out (.slice none 0 0) 0 [] rfl (.inl ⟨rfl, rfl, rfl⟩) (by simp) (by unfold maxLen; omega) (by omega) hx2s ?_; intro v4 X3 ho3 hg3; have Hx3 := hide (Hx2.out.grown hg3 hx2s (fun k e => row_own Ho2.out k e)); have Hfin := hide (rrow_end (k := 0) H.out Hk.out Hlo.out Hgt.out Hx3.out (by simpa [rflat] using ho3) hl); obtain ⟨za, zc, rfl⟩ := row_form ho3; clear ho3 hg3 c1; obtain ⟨c1, cf1⟩ := cells1b (H.out.below Hx3.out).blk))
            go_ret
            exact ⟨0, rfl, _, _, Hfin.out.1, Hfin.out.2.1, Hfin.out.2.2.1, .inr rfl, fun A hA _ => Hfin.out.2.2.2 A hA⟩
end Go.Proofs.Ytmcajoccfbebiaa
