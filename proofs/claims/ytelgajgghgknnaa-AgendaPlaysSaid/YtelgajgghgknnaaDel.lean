/- The contract of slices.Delete of one entry. -/
import Derived.Test.YtelgajgghgknnaaIns
namespace Go.Proofs.Ytelgajgghgknnaa
open Go Go.RowKit Go.MapKept Go.Sort

theorem eflat_erase (l : List En) (i : Nat) (h : i < l.length) : eflat (l.eraseIdx i) = (eflat l).take (i * 4) ++ (eflat l).drop ((i + 1) * 4) := by
  rw [List.eraseIdx_eq_take_drop_succ, eflat_append, eflat_take l i (by omega), eflat_drop l (i + 1) (by omega)]

theorem ens_erased {B : Nat} {w w' : World} {v v' : Value} {l : List En} {i : Nat} (h : EnsIs B w v l) (hi : i < l.length) (hg : w.grownBy w' v.ownBlock) (hown : w'.ownsRow B 61 4 v' (l.length - 1) (eflat (l.eraseIdx i))) : EnsIs B w' v' (l.eraseIdx i) := by
  have hll : (l.eraseIdx i).length = l.length - 1 := by rw [List.length_eraseIdx]; simp [hi]
  have := h.len
  refine ⟨by rw [hll]; omega, by rw [hll]; exact hown, fun e he => ?_⟩
  have he' : e ∈ l := List.mem_of_mem_eraseIdx he
  refine ⟨(h.tups e he').1, (h.tups e he').2.kept hg ?_⟩
  cases hk : Value.ownBlock e.ac.x with
  | none => exact .inl rfl
  | some k => exact .inr fun q => owns_ne (by decide : 61 ≠ 3) h.own (h.tups e he').2 q.symm hk

theorem wpList_clear1 {P : Program} {w : World} {ops : Array Oper} {rest : List Oper} {o : Oper} {a : Act} {Q : Exit → Act → World → Prop} (hgd : o.guard = none) (s : Operand) (t : TypeId)
    (ho : o.op = .call { callee := .builtin .clear, args := #[s], argTypes := #[t] }) (e : TypeId) (z : Value) (k : Nat) (ht : P.underlying t = some (.slice e)) (hv : ∀ w, (zeroValue e).run P w = .ok z w) (hz : z.cells.size = k) (h1 : ∀ u ∈ z.cells.toList, u.oneCell' = true)
    (g off n c : Nat) (hs : a.eval s = .slice (some ⟨g, off, none⟩) n c) (hn1 : n = 1) (cur : List Value) (tt : TypeId) (hg : w.heap[g]? = some (.cells cur.toArray tt (0, 0))) (hfit : off + 1 * k ≤ cur.length)
    (h : ∀ w' zs, zs.length = 1 * k → w'.heap[g]? = some (.cells (splice cur off zs).toArray tt (0, 0)) → Only [g] w w' → w'.heap.size = w.heap.size → wpList P ops Q rest (a.put o.dst (.tuple #[])) w') :
    wpList P ops Q (o :: rest) a w := by
  subst hn1
  exact wpList_clearK hgd s t ho e z k ht hv hz h1 g off 1 c hs cur tt hg (by omega) hfit h

set_option maxRecDepth 100000 in
set_option maxHeartbeats 2000000 in
theorem delete_any (B : Nat) (v : Value) (l : List En) (i : Nat) (w : World) (h : EnsIs B w v l) (hi : i < l.length) :
    Calls Try.prog 43 #[v, .int .i64 i, .int .i64 ((i : Int) + 1)] w fun r w' => ∃ v', r = .returned v' ∧ EnsIs B w' v' (l.eraseIdx i) ∧ w.grownBy w' v.ownBlock ∧ Stays v v' w := by
  obtain ⟨i0, hi0, hz0, hz1, hz2⟩ := einfo_parts
  have hzv : ∀ w, (zeroValue 61).run Try.prog w = .ok (.agg #[.int .i64 0, .slice none 0 0, .int .i64 0, .bool false]) w := fun w => by simp [zeroValue, typeInfo, hi0, hz0]
  have hzo : ∀ u ∈ (Value.agg #[.int .i64 0, .slice none 0 0, .int .i64 0, .bool false]).cells.toList, u.oneCell' = true := by
    intro u hu
    simp only [Value.cells, List.mem_cons, List.not_mem_nil, or_false] at hu
    rcases hu with rfl | rfl | rfl | rfl <;> rfl
  have honel : ∀ u ∈ eflat l, u.oneCell' = true := eflat_one l fun e he => by obtain ⟨a, c, q⟩ := (h.nis he).form; exact ⟨_, _, _, q⟩
  have herased := fun w' v' => @ens_erased B w w' v v' l i h hi
  have hlen := h.len
  rcases h.own.2 with ⟨rfl, h0⟩ | ⟨g, cap, cur, rfl, hBg, hg, hc, hcm, hcs, hct⟩
  · omega
  have hflen := eflat_length l
  unfold maxLen at hcm
  obtain ⟨cl, rfl⟩ : ∃ cl : List Value, cur = cl.toArray := ⟨cur.toList, by simp⟩
  have hcl : cl.length = cap * 4 := by simpa using hcs
  have hct' : cl.take (l.length * 4) = eflat l := by simpa using hct
  have hsrc : ∀ j u, ((eflat l).drop ((i + 1) * 4))[j]? = some u → w.cell? ((⟨g, (i + 1) * 4, none⟩ : Addr).add j) = some u := fun j u hu => by
    rw [List.getElem?_drop] at hu
    have := h.own.cells (g := g) rfl _ u hu
    simpa only [Addr.add_lit, Nat.zero_add] using this
  have honed : ∀ u ∈ (eflat l).drop ((i + 1) * 4), u.oneCell' = true := fun u hu => honel u (List.mem_of_mem_drop hu)
  obtain ⟨m, hm⟩ : ∃ m, l.length = i + 1 + m := ⟨l.length - (i + 1), by omega⟩
  have hdl : ((eflat l).drop ((i + 1) * 4)).length = m * 4 := by rw [List.length_drop, hflen]; omega
  have e0 := length_splice cl (i * 4) ((eflat l).drop ((i + 1) * 4)) (by rw [hdl, hcl]; omega)
  have hf1 : i * 4 + ((eflat l).drop ((i + 1) * 4)).length ≤ cl.length := by rw [hdl, hcl]; omega
  have hf2 : (i + m) * 4 + 1 * 4 ≤ (splice cl (i * 4) ((eflat l).drop ((i + 1) * 4))).length := by rw [e0, hcl]; omega
  have hres : ∀ w1 w2 : World, ∀ zs : List Value, zs.length = 1 * 4 → Only [g] w w1 → Only [g] w1 w2 → w2.heap[g]? = some (.cells (splice (splice cl (i * 4) ((eflat l).drop ((i + 1) * 4))) ((i + m) * 4) zs).toArray 61 (0, 0)) → EnsIs B w2 (.slice (some ⟨g, 0, none⟩) (i + m) cap) (l.eraseIdx i) ∧ w.grownBy w2 (Value.ownBlock (.slice (some ⟨g, 0, none⟩) l.length cap)) ∧ Stays (.slice (some ⟨g, 0, none⟩) l.length cap) (.slice (some ⟨g, 0, none⟩) (i + m) cap) w := fun w1 w2 zs hzl o1 o2 hw2 => by
    have hgr := only_grown (o1.trans o2)
    have hnm : l.length - 1 = i + m := by omega
    have hrow : w2.ownsRow B 61 4 (.slice (some ⟨g, 0, none⟩) (i + m) cap) (i + m) (eflat (l.eraseIdx i)) := by
      refine ⟨by rw [eflat_length, List.length_eraseIdx]; simp [hi]; omega, .inr ⟨g, cap, _, rfl, hBg, hw2, by omega, by unfold maxLen; omega, ?_, ?_⟩⟩
      · have e2 := length_splice (splice cl (i * 4) ((eflat l).drop ((i + 1) * 4))) ((i + m) * 4) zs (by rw [hzl]; exact hf2)
        simp only [List.size_toArray]
        rw [e2, e0, hcl]
      · have e3 : (i + m) * 4 = i * 4 + ((eflat l).drop ((i + 1) * 4)).length := by rw [hdl]; omega
        rw [eflat_erase l i hi]
        simp only
        rw [splice_before _ _ _ (by rw [hzl]; exact hf2) (Nat.le_refl _), e3, splice_take _ _ _ hf1, ← hct', List.take_take, Nat.min_eq_left (by omega)]
    exact ⟨herased _ _ hgr (by rw [hnm]; exact hrow), hgr, stays_of (.inl rfl)⟩
  have Hres := hide hres
  have Hf1 := hide hf1
  have Hf2 := hide hf2
  have Hg := hide hg
  have Hsrc := hide hsrc
  have Hdl := hide hdl
  have Honed := hide honed
  have Hi0 := hide hi0
  have Hz1 := hide hz1
  have Hzv := hide hzv
  have Hzo := hide hzo
  have Hzc : Hid ((Value.agg #[.int .i64 0, .slice none 0 0, .int .i64 0, .bool false]).cells.size = 4) := hide rfl
  rw [hm]
  clear hres hf1 hf2 hg hsrc hdl honed honel herased hi0 hz0 hz1 hz2 hzv hzo hcl hct hct' hcs e0 h hflen
  have hc' : i + 1 + m ≤ cap := by omega
  have hb0 : (i : Int) ≤ (i : Int) + 1 := by omega
  have hb1 : (0 : Int) ≤ (i : Int) + 1 := by omega
  have htn : ((i : Int) + 1).toNat = i + 1 := by omega
  have hb2 : (i : Int) + 1 ≤ (i : Int) + 1 + (m : Int) := by omega
  have hb3 : ¬ ((i : Int) = (i : Int) + 1) := by omega
  have hb4 : ¬ cap = i := by omega
  have hb5 : ¬ cap = i + m := by omega
  have hb6 : (i : Int) + 1 ≤ (cap : Int) := by omega
  have hb7 : (i : Int) + 1 + (m : Int) ≤ (cap : Int) := by omega
  have hlm : i + 1 + m ≤ 100000 := by omega
  have hb8 : (i : Int) ≤ (cap : Int) := by omega
  have hb9 : (0 : Int) ≤ (i : Int) := by omega
  have hb10 : i ≤ cap := by omega
  clear hi hc hlen
  by_cases hce : cap = i + 1
  · obtain rfl : m = 0 := by omega
    subst hce
    have Hsrc0 : Hid (∀ j u, ((eflat l).drop ((i + 1) * 4))[j]? = some u → w.cell? ((⟨g, 0, none⟩ : Addr).add j) = some u) := hide (fun j u hu => by
      have := (List.getElem?_eq_some_iff.1 hu).1
      rw [Hdl.out] at this
      omega)
    simp only [Nat.add_zero, Int.natCast_zero, Int.add_zero] at Hres Hf2 hb2 hb5 hb7 hlm ⊢
    clear hb5 hb10
    go_enter Try.func43, Try.ntmps43
    go_wp2_with fail
    go_region_law (refine step_appendK rfl (.tmp 22) (.tmp 25) 53 rfl 61 i0 4 Try.underlying53 Hi0.out Hz1.out g i (i + 1) (by simp [Act.eval, Act.put]) ⟨g, 0, none⟩ 0 0 (by simp [Act.eval, Act.put]) cl Hg.out ((eflat l).drop ((i + 1) * 4)) Hdl.out Hsrc0.out Honed.out (by omega) Hf1.out ?_; intro w1 hw1' ho1 hz1'; have Hw1 := hide hw1'; have Ho1 := hide ho1; clear hw1' ho1 hz1')
    have Ho1' := hide (show Only [g] w w1 from (Only.drew (Only.refl [g] w)).trans Ho1.out)
    go_wp2_with ((with_reducible refine wpList_clear1 rfl (.tmp 31) 53 rfl 61 _ 4 Try.underlying53 Hzv.out Hzc.out Hzo.out g (i * 4) _ _ rfl (by omega) (splice cl (i * 4) ((eflat l).drop ((i + 1) * 4))) 61 Hw1.out Hf2.out ?_); intro w2 zs hzl hw2' ho2 hz2'; have Hw2 := hide hw2'; have Ho2 := hide ho2; have Hzl := hide hzl; clear hzl hw2' ho2 hz2')
    go_wp2
    go_ret
    exact ⟨_, rfl, Hres.out _ _ _ Hzl.out Ho1'.out Ho2.out Hw2.out⟩
  · go_enter Try.func43, Try.ntmps43
    go_wp2_with fail
    go_region_law (refine step_appendK rfl (.tmp 22) (.tmp 25) 53 rfl 61 i0 4 Try.underlying53 Hi0.out Hz1.out g i cap (by simp [Act.eval, Act.put]) ⟨g, (i + 1) * 4, none⟩ m (cap - (i + 1)) (by simp [Act.eval, Act.put]) cl Hg.out ((eflat l).drop ((i + 1) * 4)) Hdl.out Hsrc.out Honed.out (by omega) Hf1.out ?_; intro w1 hw1' ho1 hz1'; have Hw1 := hide hw1'; have Ho1 := hide ho1; clear hw1' ho1 hz1')
    have Ho1' := hide (show Only [g] w w1 from (Only.drew (Only.refl [g] w)).trans Ho1.out)
    go_wp2_with ((with_reducible refine wpList_clear1 rfl (.tmp 31) 53 rfl 61 _ 4 Try.underlying53 Hzv.out Hzc.out Hzo.out g ((i + m) * 4) _ _ rfl (by omega) (splice cl (i * 4) ((eflat l).drop ((i + 1) * 4))) 61 Hw1.out Hf2.out ?_); intro w2 zs hzl hw2' ho2 hz2'; have Hw2 := hide hw2'; have Ho2 := hide ho2; have Hzl := hide hzl; clear hzl hw2' ho2 hz2')
    go_wp2
    go_ret
    exact ⟨_, rfl, Hres.out _ _ _ Hzl.out Ho1'.out Ho2.out Hw2.out⟩
end Go.Proofs.Ytelgajgghgknnaa
