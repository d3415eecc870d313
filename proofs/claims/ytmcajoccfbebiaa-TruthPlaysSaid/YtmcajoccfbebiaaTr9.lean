/- Lost: the facts that nothing holds up. -/
import Derived.Test.YtmcajoccfbebiaaTr8
namespace Go.Proofs.Ytmcajoccfbebiaa
open Go Go.RowKit Go.MapKept Go.Sort

/-- A fact is held up: it is plain, or justified by facts that are held up. -/
inductive Held (M : List Sp) : Int → Prop
  | plain {id : Int} : (getD M id).plain = true → Held M id
  | just {id : Int} {j : Jc} : j ∈ (getD M id).js → (∀ x ∈ j.tup, Held M x) → Held M id

theorem getD_mem {M : List Sp} {id : Int} (h : (getD M id).plain = true ∨ (getD M id).js ≠ []) : id ∈ M.map Sp.id := by
  unfold getD getS at h
  cases e : M.find? fun p => p.id == id with
  | none => rw [e] at h; simp at h
  | some p =>
    have h1 := List.find?_some e
    exact List.mem_map.2 ⟨p, List.mem_of_find?_eq_some e, by simpa using h1⟩
theorem Held.mem {M : List Sp} {id : Int} (h : Held M id) : id ∈ M.map Sp.id := by
  cases h with
  | plain h => exact getD_mem (.inl h)
  | just h _ => exact getD_mem (.inr (fun e => by rw [e] at h; simp at h))

/-- What is left, and what is held already. -/
structure LRel (M : List Sp) (ll : List Int) (lin : List (Int × Value)) : Prop where
  ll : ll = (idsS M).filter fun x => !inSet lin x
  held : ∀ x, inSet lin x = true → Held M x

theorem LRel.nil (M : List Sp) : LRel M (idsS M) [] := ⟨(List.filter_eq_self.2 fun _ _ => rfl).symm, fun _ h => by simp [inSet, look] at h⟩
theorem holds_held {M : List Sp} {lin : List (Int × Value)} (h : ∀ x, inSet lin x = true → Held M x) {id : Int} (hp : holdsB lin (getD M id) = true) : Held M id := by
  unfold holdsB at hp
  rw [Bool.or_eq_true] at hp
  rcases hp with hp | hp
  · exact .plain hp
  · obtain ⟨j, hj, ha⟩ := List.any_eq_true.1 hp
    exact .just hj fun x hx => h x (List.all_eq_true.1 ha x hx)
theorem LRel.step {M : List Sp} {ll : List Int} {lin lin' : List (Int × Value)} (h : LRel M ll lin) (hl : ∀ x, inSet lin' x = (inSet lin x || ll.any fun y => y == x && holdsB lin (getD M y))) : LRel M (ll.filter fun x => !holdsB lin (getD M x)) lin' := by
  refine ⟨?_, fun x hx => ?_⟩
  · conv => lhs; rw [h.ll]
    rw [List.filter_filter]
    refine List.filter_congr fun x hx => ?_
    rw [hl]
    cases hi : inSet lin x with
    | true => simp
    | false =>
      have hm : x ∈ ll := by rw [h.ll]; exact List.mem_filter.2 ⟨hx, by simp [hi]⟩
      have : (ll.any fun y => y == x && holdsB lin (getD M y)) = holdsB lin (getD M x) := by
        rw [Bool.eq_iff_iff, List.any_eq_true]
        constructor
        · rintro ⟨y, _, hy⟩
          rw [Bool.and_eq_true] at hy
          obtain rfl : y = x := by simpa using hy.1
          exact hy.2
        · exact fun hp => ⟨x, hm, by simp [hp]⟩
      rw [this]
      simp
  · rw [hl, Bool.or_eq_true] at hx
    rcases hx with hx | hx
    · exact h.held x hx
    · obtain ⟨y, _, hy⟩ := List.any_eq_true.1 hx
      rw [Bool.and_eq_true] at hy
      obtain rfl : y = x := by simpa using hy.1
      exact holds_held h.held hy.2
theorem mem_ids {M : List Sp} {id : Int} : id ∈ idsS M ↔ id ∈ M.map Sp.id := (rise_perm _).mem_iff
theorem LRel.stop {M : List Sp} {ll : List Int} {lin : List (Int × Value)} (h : LRel M ll lin) (hn : ∀ x ∈ ll, holdsB lin (getD M x) = false) {x : Int} (hx : Held M x) : inSet lin x = true := by
  have key : ∀ x, x ∈ M.map Sp.id → holdsB lin (getD M x) = true → inSet lin x = true := fun x hm hp => by
    cases hi : inSet lin x with
    | true => rfl
    | false =>
      have : x ∈ ll := by rw [h.ll]; exact List.mem_filter.2 ⟨mem_ids.2 hm, by simp [hi]⟩
      rw [hn x this] at hp
      cases hp
  induction hx with
  | plain hp => exact key _ (getD_mem (.inl hp)) (by unfold holdsB; rw [hp]; rfl)
  | just hj hall ih =>
    refine key _ (getD_mem (.inr fun e => by rw [e] at hj; simp at hj)) ?_
    unfold holdsB
    rw [Bool.or_eq_true]
    exact .inr (List.any_eq_true.2 ⟨_, hj, List.all_eq_true.2 ih⟩)

set_option maxRecDepth 100000 in
set_option maxHeartbeats 1000000 in
theorem asks_lost (S : List Nat) (pb pi b m mi : Nat) (M : List Sp) (lin : List (Int × Value)) (w : World) (hu : ∀ p ∈ lin, p.2 = .agg #[])
    (h : ∀ V, Only S w V → V.cell? ⟨pb, 0, none⟩ = some (.pointer (some ⟨b, 0, none⟩)) ∧ V.cell? ⟨pi, 0, none⟩ = some (.map (some mi)) ∧ BookIs V b m M ∧ IMap V mi lin) :
    AskI S w 60 #[.pointer (some ⟨pb, 0, none⟩), .pointer (some ⟨pi, 0, none⟩)] (fun id => holdsB lin (getD M id)) := fun z V hV => by
  obtain ⟨k0, k1, hB, hm⟩ := h V hV
  have oD : Below V.heap.size V V.drew := (Only.drew (Only.refl [] V)).below
  have c0 := (cells1b hB.blk).1
  have hlook := run_lookup1 (P := Try.prog) (t := 86) Try.underlying86 Try.underlying3 (hB.below oD).map (zero_sup _) z
  rw [look_getD] at hlook
  have hh := held_any mi lin (getD M z) V.drew (hm.only (Only.of_below oD []) (by simp)) hu ((hB.below oD).getD z)
  obtain ⟨q, hq⟩ : ∃ q, holdsB lin (getD M z) = q := ⟨_, rfl⟩
  show Calls Try.prog 60 _ V fun r V' => r = .returned (.bool (holdsB lin (getD M z))) ∧ Below V.heap.size V V'
  rw [hq] at hh ⊢
  obtain ⟨ga, gc, hgv⟩ := (hB.getD z).form
  unfold Sp.val at hlook hh
  rw [hgv] at hlook hh
  obtain ⟨gn, hgn⟩ : ∃ gn, (getD M z).js.length = gn := ⟨_, rfl⟩
  obtain ⟨gp, hgp⟩ : ∃ gp, (getD M z).plain = gp := ⟨_, rfl⟩
  rw [hgn, hgp] at hlook hh
  have Hh := hide hh
  have hl0 := lt_of_cell k0
  have hl1 := lt_of_cell k1
  have hl2 := lt_of_cell c0
  have Hk : Hid (∀ W, Below V.drew.heap.size V.drew W → Below V.heap.size V W ∧ W.cell? ⟨pb, 0, none⟩ = some (.pointer (some ⟨b, 0, none⟩)) ∧ W.cell? ⟨pi, 0, none⟩ = some (.map (some mi)) ∧ W.cell? ⟨b, 0, none⟩ = some (.map (some m))) := hide fun W hW =>
    have hW' := below_undrew hW
    ⟨hW', (hW'.cell (p := ⟨pb, 0, none⟩) hl0).trans k0, (hW'.cell (p := ⟨pi, 0, none⟩) hl1).trans k1, (hW'.cell (p := ⟨b, 0, none⟩) hl2).trans c0⟩
  clear hB hm oD hh hq hgv hgn hgp h hV hu
  go_enter Try.func60, Try.ntmps60
  go_wp2_with fail
  go_region_held3 (fun W => W.cell? ⟨pb, 0, none⟩ = some (.pointer (some ⟨b, 0, none⟩)) ∧ W.cell? ⟨pi, 0, none⟩ = some (.map (some mi)) ∧ W.cell? ⟨b, 0, none⟩ = some (.map (some m))) (go_keep)
    ((go_at_call 61; have hqq := Hh.out; (with_reducible refine Calls.mono hqq ?_); clear hqq; rintro r W ⟨rfl, hb⟩; obtain ⟨y0, y1, y2, y3⟩ := Hk.out W hb; have HF := hide y0; clear hb y0))
  go_wp2
  go_ret
  exact ⟨rfl, HF.out⟩
theorem eg_lost : ∀ args w, (callFunc 60 args).run Try.prog w = .ok (.enter 60 args) w := enters_of Try.func60 (by kernel_rfl) rfl

theorem look_put (l : List (Int × Value)) (k : Int) (v : Value) (x : Int) : look (put l k v) x = if k = x then some v else look l x := by
  induction l with
  | nil =>
    unfold put look
    by_cases h : k = x <;> simp [h]
  | cons p l ih =>
    unfold put
    by_cases hp : p.1 = k
    · rw [if_pos hp]
      unfold look
      by_cases h : k = x
      · simp [h]
      · have h1 : (k == x) = false := by simpa using h
        have h2 : (p.1 == x) = false := by rw [hp]; exact h1
        simp only [List.find?_cons, h1, h2, if_neg h]
    · rw [if_neg hp]
      unfold look at ih ⊢
      cases h : p.1 == x with
      | true =>
        have hx : p.1 = x := by simpa using h
        have : k ≠ x := fun e => hp (by rw [hx, e])
        simp [h, this]
      | false =>
        simp only [List.find?_cons, h]
        exact ih
theorem inSet_put (l : List (Int × Value)) (k : Int) (v : Value) (x : Int) : inSet (put l k v) x = (inSet l x || k == x) := by
  unfold inSet
  rw [look_put]
  by_cases h : k = x
  · simp [h]
  · simp [h]
theorem put_units {l : List (Int × Value)} (h : ∀ p ∈ l, p.2 = .agg #[]) (k : Int) : ∀ p ∈ put l k (.agg #[]), p.2 = .agg #[] := by
  induction l with
  | nil => simp [put]
  | cons q l ih =>
    unfold put
    intro p hp
    split at hp
    · rcases List.mem_cons.1 hp with rfl | hp
      · rfl
      · exact h p (.tail _ hp)
    · rcases List.mem_cons.1 hp with rfl | hp
      · exact h _ (.head _)
      · exact ih (fun p hp => h p (.tail _ hp)) p hp

/-- The world at the head of Lost's loop. -/
structure LSt (w W2 : World) (wr : World) (b m N mi : Nat) (M : List Sp) (lin : List (Int × Value)) : Prop where
  below : Below w.heap.size w wr
  size : W2.heap.size ≤ wr.heap.size
  c0 : wr.cell? ⟨N, 0, none⟩ = some (.pointer (some ⟨b, 0, none⟩))
  c2 : wr.cell? ⟨mi + 1, 0, none⟩ = some (.map (some mi))
  map : IMap wr mi lin
  units : ∀ p ∈ lin, p.2 = .agg #[]
theorem LSt.to {w W2 wr V : World} {b m N mi : Nat} {M : List Sp} {lin : List (Int × Value)} (h : LSt w W2 wr b m N mi M lin) (hb : Below wr.heap.size wr V) : LSt w W2 V b m N mi M lin :=
  ⟨h.below.trans (hb.mono h.below.size), Nat.le_trans h.size hb.size, (hb.cell (p := ⟨N, 0, none⟩) (lt_of_cell h.c0)).trans h.c0, (hb.cell (p := ⟨mi + 1, 0, none⟩) (lt_of_cell h.c2)).trans h.c2, h.map.only (Only.of_below hb []) (by simp), h.units⟩
theorem LSt.store {w W2 wr V : World} {b m N mi : Nat} {M : List Sp} {lin : List (Int × Value)} (h : LSt w W2 wr b m N mi M lin) (hN : N ≠ mi) (hw : w.heap.size ≤ mi) {x : Int} (hm : IMap V mi (put lin x (.agg #[]))) (ho : Only [mi] wr V) : LSt w W2 V b m N mi M (put lin x (.agg #[])) :=
  ⟨below_only h.below ho (fun i hi => by simp only [List.mem_singleton] at hi; omega) h.below.size, Nat.le_trans h.size ho.size, (ho.cell (p := ⟨N, 0, none⟩) (lt_of_cell h.c0) (by simpa using hN)).trans h.c0, (ho.cell (p := ⟨mi + 1, 0, none⟩) (lt_of_cell h.c2) (by simp)).trans h.c2, hm, put_units h.units x⟩

def sliceLen : Value → Nat
  | .slice _ n _ => n
  | _ => 0

set_option maxRecDepth 100000 in
set_option maxHeartbeats 4000000 in
theorem lost_any (b m : Nat) (M : List Sp) (w : World) (h : BookIs w b m M) :
    Calls Try.prog 29 #[.pointer (some ⟨b, 0, none⟩)] w fun e w' => ∃ v ll, e = .returned v ∧ NIs w' v ll ∧ (∃ P : Int → Bool, (∀ x ∈ idsS M, P x = true ↔ Held M x) ∧ ll = (idsS M).filter fun x => !P x) ∧ Below w.heap.size w w' := by
  have hmm := @run_makeMap Try.prog
  have hlenM := h.len
  have hids : (idsS M).length ≤ 100000 := by unfold idsS; rw [(rise_perm _).length_eq]; simp; omega
  -- the worlds of the start
  obtain ⟨W0, hW0⟩ : ∃ W0, w.alloc (Obj.cells #[.pointer (some ⟨b, 0, none⟩)] 50) = W0 := ⟨_, rfl⟩
  have hz0 : W0.heap.size = w.heap.size + 1 := by rw [← hW0]; simp
  have hb0 : Below w.heap.size w W0 := by rw [← hW0]; exact ((Only.refl [] w).alloc _).below
  have hN0 := heap_alloc0 w (Obj.cells #[.pointer (some ⟨b, 0, none⟩)] 50)
  rw [hW0] at hN0
  obtain ⟨W2, hW2⟩ : ∃ W2, (W0.alloc (.map #[] 0)).alloc (Obj.cells #[.map (some W0.heap.size)] 96) = W2 := ⟨_, rfl⟩
  have hz2 : W2.heap.size = W0.heap.size + 2 := by rw [← hW2]; simp
  have hb2 : Below W0.heap.size W0 W2 := by rw [← hW2]; exact (((Only.refl [] W0).alloc _).alloc _).below
  have hst : LSt w W2 W2 b m w.heap.size W0.heap.size M [] := by
    refine ⟨hb0.trans (hb2.mono (by omega)), Nat.le_refl _, (cells1b ((hb2.block w.heap.size (by omega)).trans hN0)).1, ?_, ?_, by simp⟩
    · have := heap_alloc0 (W0.alloc (.map #[] 0)) (Obj.cells #[.map (some W0.heap.size)] 96)
      rw [hW2] at this
      simp only [World.size_alloc] at this
      exact (cells1b this).1
    · rw [← hW2]
      exact (IMap.new W0).only ((Only.refl [] _).alloc _) (by simp)
  have HW0 := hide hW0
  have HW2 := hide hW2
  have Hst := hide hst
  have H := hide h
  have hN : w.heap.size ≠ W0.heap.size := by omega
  have hw0 : w.heap.size ≤ W0.heap.size := by omega
  have Hfacts := hide (facts_any b m M W2 (h.below hst.below))
  have hc0 := hst.c0
  clear hW0 hW2 hst h hz0 hz2 hb0 hb2 hN0
  go_enter Try.func29, Try.ntmps29
  go_upto_region 1 with fail
  rw [HW0.out]
  go_upto_region 2 with fail
  rw [HW2.out]
  go_wp2_with fail
  (with_reducible refine Hfacts.out.mono ?_)
  rintro e V0 ⟨v0, rfl, hrow, hb⟩
  obtain ⟨fa, fc, rfl⟩ := row_form hrow
  have HV0 := hide (Hst.out.to hb)
  have HF0 := hide (NIs.of_row (l := idsS M) (by omega) hrow)
  clear hc0 hrow hb Hfacts
  go_wp2_with fail
  go_loopw [4] (fun v4 wr => ∃ (la : Option Addr) (lc : Nat) (ll : List Int) (lin : List (Int × Value)), v4 = .slice la ll.length lc ∧ Hid (NIs wr (.slice la ll.length lc) ll ∧ LRel M ll lin ∧ LSt w W2 wr b m w.heap.size W0.heap.size M lin)) (fun v4 _ => sliceLen v4)
  case atStart => exact ⟨fa, fc, idsS M, [], rfl, HF0.out, LRel.nil M, HV0.out⟩
  case round =>
    obtain ⟨la, lc, ll, lin, rfl, hq⟩ := hrel
    obtain ⟨hnl, hrl, hst⟩ := hq.out
    have hll : ll.length ≤ 100000 := by
      rw [hrl.ll]
      exact Nat.le_trans (List.length_filter_le _ _) hids
    obtain ⟨wo, rfl⟩ : ∃ wo : World, wo = wr := ⟨_, rfl⟩
    have Hnc := hide (nclone _ ll wo hnl)
    have Hnl := hide hnl
    have Hrl := hide hrl
    have HSt := hide hst
    have k0 := hst.c0
    have k2 := hst.c2
    clear hq hnl hrl hst
    go_wp2_with fail
    (with_reducible refine Hnc.out.mono ?_)
    rintro e V1 ⟨v1, rfl, hr1, hb1⟩
    obtain ⟨a1, c1, rfl⟩ := row_form hr1
    have hS : ∀ i ∈ (Value.ownBlock (.slice a1 ll.length c1)).toList, wo.heap.size ≤ i := fun i hi => by
      simp only [Option.mem_toList] at hi
      exact (hr1.lt i hi).1
    have hdel := deleteI_any 60 #[.pointer (some ⟨w.heap.size, 0, none⟩), .pointer (some ⟨W0.heap.size + 1, 0, none⟩)] (fun id => holdsB lin (getD M id)) eg_lost wo.heap.size (.slice a1 ll.length c1) ll V1 (by omega) hr1
      (asks_lost _ w.heap.size (W0.heap.size + 1) b m W0.heap.size M lin V1 HSt.out.units (fun V hV => by
        have hbV : Below wo.heap.size wo V := below_only hb1 hV hS hb1.size
        have q := HSt.out.to hbV
        exact ⟨q.c0, q.c2, H.out.below q.below, q.map⟩))
    have Hdel := hide hdel
    have Hb1 := hide hb1
    have HS := hide hS
    clear hdel hr1 hb1 hS Hnc k0 k2
    go_wp2_with fail
    (with_reducible refine Hdel.out.mono ?_)
    rintro e V2 ⟨v', rfl, hr2, ho2, _⟩
    have hb2 : Below wo.heap.size wo V2 := below_only Hb1.out ho2 HS.out Hb1.out.size
    have hlf := List.length_filter_le (fun x => !(fun id => holdsB lin (getD M id)) x) ll
    have hfeq := List.length_filter_eq_length_iff (p := fun x => !(fun id => holdsB lin (getD M id)) x) (l := ll)
    obtain ⟨lr, hlr⟩ : ∃ lr, (ll.filter fun x => !(fun id => holdsB lin (getD M id)) x) = lr := ⟨_, rfl⟩
    rw [hlr] at hr2 hlf hfeq
    obtain ⟨a2, c2, rfl⟩ := row_form hr2
    have Hlr := hide hlr
    have Hn2 := hide (NIs.of_row (l := lr) (by omega) hr2)
    have Hst2 := hide (HSt.out.to hb2)
    have Hnl2 := hide (Hnl.out.below hb2)
    have Hfeq := hide hfeq
    clear hr2 ho2 hb2 hlr hfeq Hdel Hb1 HS HSt Hnl
    by_cases heq : lr.length = ll.length
    · have hbe : ((lr.length : Int) == (ll.length : Int)) = true := by rw [heq]; simp
      have hno : ∀ x ∈ ll, holdsB lin (getD M x) = false := fun x hx => by simpa using Hfeq.out.1 heq x hx
      have HF := hide hno
      clear heq hno
      go_wp2
      go_ret
      exact ⟨_, ll, rfl, Hnl2.out, ⟨inSet lin, fun x _ => ⟨Hrl.out.held x, Hrl.out.stop HF.out⟩, Hrl.out.ll⟩, Hst2.out.below⟩
    · have hbe : ((lr.length : Int) == (ll.length : Int)) = false := by simp only [beq_eq_false_iff_ne, ne_eq]; omega
      have hlt : lr.length < ll.length := by omega
      clear heq
      go_wp2_with fail
      go_loopw [23] (fun vi wr => ∃ k : Nat, k ≤ ll.length ∧ vi = .int .i64 k ∧ Hid (∃ lin', LSt w W2 wr b m w.heap.size W0.heap.size M lin' ∧ (∀ x, inSet lin' x = (inSet lin x || (ll.take k).any fun y => y == x && holdsB lin (getD M y))) ∧ KeepsCells V2 wr)) (fun vi _ => ll.length - (intOf vi).toNat)
      case atStart => exact ⟨0, Nat.zero_le _, rfl, lin, Hst2.out, fun x => by simp, fun _ _ h => h⟩
      case round =>
        obtain ⟨k, hk, rfl, hq⟩ := hrel
        obtain ⟨lin', hst', hset, hkc⟩ := hq.out
        by_cases hlk : k < ll.length
        · obtain ⟨g, off, cap, e, c0⟩ := nis_at (Hnl2.out.keeps hkc) hlk
          injection e with e1 e2 e3
          subst e1 e3
          clear e2
          have hci := contains_int _ lr ll[k] wr (Hn2.out.keeps hkc)
          have hany : (lr.any fun y => ll[k] == y) = !holdsB lin (getD M ll[k]) := by
            rw [← Hlr.out, Bool.eq_iff_iff, List.any_eq_true]
            constructor
            · rintro ⟨y, hy, q⟩
              obtain rfl : ll[k] = y := by simpa using q
              exact (List.mem_filter.1 hy).2
            · exact fun q => ⟨ll[k], List.mem_filter.2 ⟨List.getElem_mem hlk, q⟩, by simp⟩
          rw [hany] at hci
          have hset' : ∀ x, (inSet lin x || (ll.take (k + 1)).any fun y => y == x && holdsB lin (getD M y)) = (inSet lin' x || (ll[k] == x && holdsB lin (getD M ll[k]))) := fun x => by
            rw [hset, List.take_succ_eq_append_getElem hlk, List.any_append]
            simp [Bool.or_assoc]
          obtain ⟨wu, hrun, hmu, hou, hzu⟩ := run_mapUpdate (P := Try.prog) (t := 96) Try.underlying96 Try.underlying3 hst'.map ll[k] (.agg #[])
          have Hupd := hide (hst'.store hN hw0 hmu hou)
          have Hkcu := hide (hkc.trans (KeepsCells.map hst'.map hou))
          have k2 := hst'.c2
          have Hst' := hide hst'
          have Hkc := hide hkc
          have Hset' := hide hset'
          obtain ⟨z, hz⟩ : ∃ z, ll[k] = z := ⟨_, rfl⟩
          have Hz := hide hz
          rw [hz] at c0 hci hrun Hupd Hset'
          obtain ⟨p, hp⟩ : ∃ p, holdsB lin (getD M z) = p := ⟨_, rfl⟩
          rw [hp] at hci Hset'
          have Hci := hide hci
          clear hci hset hset' hst' hkc hmu hou hzu hz hp hany hq
          go_wp2_with fail
          (with_reducible refine Hci.out.mono ?_)
          rintro e V3 ⟨rfl, hV3⟩
          rw [← hV3]
          clear hV3 Hci
          cases p
          · clear hrun
            go_wp2
            go_roundw
            case rel => exact ⟨k + 1, by omega, by go_num, lin', Hst'.out, fun x => by rw [Hset'.out]; simp, Hkc.out⟩
            case measure => simp [intOf]; omega
          · go_wp2
            go_roundw
            case rel => exact ⟨k + 1, by omega, by go_num, _, Hupd.out, fun x => by rw [Hset'.out, inSet_put]; simp, Hkcu.out⟩
            case measure => simp [intOf]; omega
        · obtain rfl : k = ll.length := by omega
          have HF := hide (show NIs wr (.slice a2 lr.length c2) lr ∧ LRel M lr lin' ∧ LSt w W2 wr b m w.heap.size W0.heap.size M lin' from ⟨Hn2.out.keeps hkc, by
            rw [List.take_length] at hset
            have := Hrl.out.step hset
            rw [← Hlr.out]
            exact this, hst'⟩)
          clear hst' hset hkc hq
          go_wp2
          go_roundw
          case rel => exact ⟨a2, c2, lr, lin', rfl, HF.out⟩
          case measure => simp only [sliceLen]; omega
end Go.Proofs.Ytmcajoccfbebiaa
