/- The contract of witanref27's Copy. -/
import Derived.Test.YtelgajgghgknnaaRAg4
namespace Go.Proofs.Ytelgajgghgknnaa
open Go Go.RowKit Go.MapKept Go.Sort

/-- A row that another's empty block was never: its block has cells, or it is the empty row itself. -/
theorem own_ne_empty {V1 : World} {B n k : Nat} {v1 : Value} {xs : List Value} (hn : 0 < n) (hown : V1.ownsRow B 27 3 v1 n xs) (hk : V1.heap[k]? = some (.cells #[] 27 (0, 0))) : v1.ownBlock ≠ some k := by
  rcases hown.2 with ⟨rfl, h0⟩ | ⟨g, cap, cur, rfl, _, hg, hnc, _, hcs, _⟩
  · simp [Value.ownBlock]
  · intro e
    simp only [Value.ownBlock, Option.some.injEq] at e
    subst e
    rw [hk] at hg
    simp only [Option.some.injEq, Obj.cells.injEq] at hg
    rw [← hg.1] at hcs
    simp at hcs
    omega

/-- append of an own row (none or some) onto an empty row of one's own, at a step of a region that draws: no other empty block is the new row's. -/
theorem step_append_empty {P : Program} {ops : Array Oper} {o : Oper} {a : Act} {w : World} {K : Act → World → Prop} {Q : Exit → Act → World → Prop} {E : Prop} (hgd : o.guard = none) (s x : Operand) (t : TypeId)
    (ho : o.op = .call { callee := .builtin .append, args := #[s, x], argTypes := #[t, t] })
    (base B2 : Nat) (i : TypeInfo) (z : Value) (bytes : Nat) (ht : P.underlying t = some (.slice 27)) (hi : P.info? 27 = some i) (hz : i.zero = some z)
    (hsize : i.size = 3) (hby : i.bytes = bytes) (hzs : z.cells.size = 3)
    (X : Nat) (hs : a.eval s = .slice (some ⟨X, 0, none⟩) 0 0) (hX : w.heap[X]? = some (.cells #[] 27 (0, 0))) (hB : base ≤ X)
    (vx : Value) (m : Nat) (news : List Value) (hx : a.eval x = vx) (hrow : w.ownsRow B2 27 3 vx m news) (h1 : ∀ u ∈ news, u.oneCell' = true)
    (h63 : m ≤ maxLen) (hbytes : m * bytes ≤ 140737488355328) (hbase : base ≤ w.heap.size)
    (h : ∀ v' w', w'.ownsRow base 27 3 v' m news → w.grownBy w' (some X) → (∀ k, k ≠ X → k < w.heap.size → w.heap[k]? = some (.cells #[] 27 (0, 0)) → v'.ownBlock ≠ some k) → K (a.put o.dst v') w') :
    if Region.wanted o (yielded ops a.tmps) = true then Oper.wp P o a w K Q else E := by
  have hown := own_empty hX hB
  by_cases hm : m = 0
  · subst hm
    have hn : news = [] := List.eq_nil_of_length_eq_zero (by have := hrow.1; omega)
    subst hn
    rcases hrow.2 with ⟨rfl, _⟩ | ⟨g, cap, cur, rfl, _⟩
    · exact step_append_none hgd s x t ho base _ i 3 ht hi _ 0 [] hs hown hx (h _ w hown ⟨rfl, rfl, rfl, Nat.le_refl _, fun _ _ _ => rfl⟩ (fun k hk _ _ e => by simp only [Value.ownBlock, Option.some.injEq] at e; exact hk e.symm))
    · have hw : Region.wanted o (yielded ops a.tmps) = true := by simp [Region.wanted, hgd]
      rw [if_pos hw]
      have hr := run_append_room (P := P) w t o.type 27 i ht hi X 0 0 #[] hX ⟨g, 0, none⟩ 0 cap [] (by simp) (by simp) (by simp) (by omega) (by simp)
      unfold Oper.wp execOp
      simp only [ho, resolve, invoke, builtin, Sem.run_bind, Sem.run_pure, Result.andThen_ok, List.map_toArray, List.map_cons, List.map_nil, hs, hx, hr]
      refine h _ _ ?_ ?_ (fun k hk _ _ e => by simp only [Value.ownBlock, Option.some.injEq] at e; exact hk e.symm)
      · exact own_empty (by rw [setRow_heap w X _ _ _ _ hX]; simp) hB
      · exact ⟨rfl, rfl, rfl, by simp, fun k _ hk => setRow_other w X k _ (fun e => hk (by rw [e]))⟩
  · refine step_append_row hgd s x t ho base B2 _ i z 3 bytes ht hi hz hsize hby hzs (by decide) _ 0 [] hs hown vx m news hx hrow h1 (by omega) (by simpa using hbytes) hbase ?_
    intro v' w' h2 h3
    rw [Nat.zero_add, List.nil_append] at h2
    exact h v' w' h2 h3 (fun k hk hlt he => own_ne_empty (B := base) (by omega) h2 ((h3.block k hlt (by simp only [Value.ownBlock, ne_eq, Option.some.injEq]; exact hk)).trans he))

/-- An empty row of one's own, not written yet. -/
def EmpB (w V : World) (X : Nat) : Prop := Below w.heap.size w V ∧ w.heap.size ≤ X ∧ V.heap[X]? = some (.cells #[] 27 (0, 0))
theorem cp_a (w : World) : EmpB w ((w.alloc (Obj.cells #[] 27)).drew) w.heap.size := ⟨(((Only.refl [] w).alloc _).drew).below, Nat.le_refl _, heap_alloc0 w _⟩
theorem cp_b (w : World) : EmpB w (((w.alloc (Obj.cells #[] 27)).alloc (Obj.cells #[] 27)).drew) w.heap.size ∧ EmpB w (((w.alloc (Obj.cells #[] 27)).alloc (Obj.cells #[] 27)).drew) (w.heap.size + 1) :=
  ⟨⟨((((Only.refl [] w).alloc _).alloc _).drew).below, Nat.le_refl _, heap_alloc2_old w _ _⟩, ⟨((((Only.refl [] w).alloc _).alloc _).drew).below, by omega, heap_alloc2_new w _ _⟩⟩
theorem cp_f {w V : World} (h : Below w.heap.size w V) : EmpB w (V.alloc (Obj.cells #[] 27)) V.heap.size :=
  ⟨h.alloc h.size _, h.size, (MapKept.heap_alloc V _).1⟩
theorem EmpB.lt {w V : World} {X : Nat} (h : EmpB w V X) : X < V.heap.size := lt_of_heap h.2.2
theorem cp_after {w V V1 : World} {X : Nat} (h : EmpB w V X) (hg : V.grownBy V1 (some X)) : Below w.heap.size w V1 := h.1.grown hg h.1.size (fun k e => by simp only [Option.some.injEq] at e; have := h.2.1; omega)
theorem cp_pend {w V V1 : World} {X Y : Nat} {v : Value} (h : EmpB w V X) (hy : EmpB w V Y) (hxy : Y ≠ X) (hg : V.grownBy V1 (some X)) (hne : ∀ k, k ≠ X → k < V.heap.size → V.heap[k]? = some (.cells #[] 27 (0, 0)) → v.ownBlock ≠ some k) : EmpB w V1 Y ∧ v.ownBlock ≠ some Y :=
  ⟨⟨cp_after h hg, hy.2.1, (hg.block Y hy.lt (by simpa using hxy)).trans hy.2.2⟩, hne Y hxy hy.lt hy.2.2⟩
theorem cp_keep {V V1 : World} {B X n : Nat} {v : Value} {xs : List Value} (h : V.ownsRow B 27 3 v n xs) (hg : V.grownBy V1 (some X)) (hne : v.ownBlock ≠ some X) : V1.ownsRow B 27 3 v n xs :=
  h.kept hg (by cases e : v.ownBlock with | none => simp | some k => rw [e] at hne; simpa [eq_comm] using hne)
theorem cp_keep_new {V V1 : World} {B n : Nat} {v : Value} {xs : List Value} (h : V.ownsRow B 27 3 v n xs) (hg : (V.alloc (Obj.cells #[] 27)).grownBy V1 (some V.heap.size)) : V1.ownsRow B 27 3 v n xs :=
  cp_keep (h.alloc _) hg (fun e => by have := (h.lt _ e).2; omega)
theorem cp_ref {w0 w V : World} {b : Nat} {s : Int} {vL vF v1 v2 : Value} {L F : List Ac} (h : RefIs w0 w b s vL vF L F) (hb : Below w.heap.size w V) (h1 : V.ownsRow w.heap.size 27 3 v1 L.length (aflat L)) (h2 : V.ownsRow w.heap.size 27 3 v2 F.length (aflat F)) :
    RefIs w0 (V.alloc (Obj.cells #[.int .u8 s, v1, v2] 47)) V.heap.size s v1 v2 L F ∧ Below w.heap.size w (V.alloc (Obj.cells #[.int .u8 s, v1, v2] 47)) := by
  have hz := h.below.size
  have hz2 := hb.size
  exact ⟨⟨(MapKept.heap_alloc V _).1, by omega, h.below.trans ((hb.alloc hb.size _).mono hz), h.lenL, h.lenF, owns_base (h1.alloc _) hz, owns_base (h2.alloc _) hz, h.tupL, h.tupF⟩, hb.alloc hb.size _⟩

set_option maxRecDepth 100000 in
set_option maxHeartbeats 8000000 in
theorem rCopy_any {w0 : World} (b : Nat) (s : Int) (vL vF : Value) (L F : List Ac) (w : World) (h : RefIs w0 w b s vL vF L F) :
    Calls Try.prog 27 #[.pointer (some ⟨b, 0, none⟩)] w fun r w' => ∃ b' vL' vF', r = .returned (.pointer (some ⟨b', 0, none⟩)) ∧ w.heap.size ≤ b' ∧ RefIs w0 w' b' s vL' vF' L F ∧ Below w.heap.size w w' := by
  have hltb := lt_of_heap h.blk
  obtain ⟨e0, e1, e2, _, _⟩ := cells3f h.blk
  obtain ⟨la, lc, rfl⟩ := h.actsL.form
  obtain ⟨va, vc, rfl⟩ := h.actsF.form
  have hlL := h.lenL
  have hlF := h.lenF
  obtain ⟨i0, hi, hz0, hz1, hz2⟩ := ainfo_parts
  have Hi := hide hi
  have Hz0 := hide hz0
  have Hz1 := hide hz1
  have Hz2 := hide hz2
  have H := hide h
  have HrowL : Hid (∀ V, Below w.heap.size w V → V.ownsRow w0.heap.size 27 3 (.slice la L.length lc) L.length (aflat L)) := hide (fun V hV => owns_below h.rowL hV)
  have HrowF : Hid (∀ V, Below w.heap.size w V → V.ownsRow w0.heap.size 27 3 (.slice va F.length vc) F.length (aflat F)) := hide (fun V hV => owns_below h.rowF hV)
  have HoneL : Hid (∀ u ∈ aflat L, u.oneCell' = true) := hide (aflat_one L (fun a ha => by obtain ⟨q, c, e⟩ := (h.tupL a ha).form; exact ⟨q, _, c, e⟩))
  have HoneF : Hid (∀ u ∈ aflat F, u.oneCell' = true) := hide (aflat_one F (fun a ha => by obtain ⟨q, c, e⟩ := (h.tupF a ha).form; exact ⟨q, _, c, e⟩))
  have Hc : Hid (∀ V, Below w.heap.size w V → V.cell? ⟨b, 0, none⟩ = some (.int .u8 s) ∧ V.cell? ⟨b, 1, none⟩ = some (.slice la L.length lc) ∧ V.cell? ⟨b, 2, none⟩ = some (.slice va F.length vc)) := hide (fun V hV => by have := cells3f (h.to hV).blk; exact ⟨this.1, this.2.1, this.2.2.1⟩)
  have A := hide (cp_a w)
  have B0 := hide (cp_b w).1
  have B1 := hide (cp_b w).2
  clear hi hz0 hz1 hz2 h
  go_enter Try.func27, Try.ntmps27
  go_wp2_with fail
  go_region_held3 (fun V => V.cell? ⟨b, 0, none⟩ = some (.int .u8 s) ∧ V.cell? ⟨b, 1, none⟩ = some (.slice la L.length lc) ∧ V.cell? ⟨b, 2, none⟩ = some (.slice va F.length vc)) (go_keep)
    (first
      | (refine step_append_empty rfl (.tmp 7) (.tmp 11) 22 rfl w.heap.size w0.heap.size i0 (.agg #[.int .i64 0, .slice none 0 0, .int .i64 0]) 40 Try.underlying22 Hi.out Hz0.out Hz1.out Hz2.out rfl w.heap.size ?_ A.out.2.2 A.out.2.1 (.slice la L.length lc) L.length (aflat L) (by simp [Act.eval]) (HrowL.out _ A.out.1) HoneL.out (by unfold maxLen; omega) (by omega) A.out.1.size ?_; (focus (simp [Act.eval]; done)); intro v1 w1 hown hg hne; obtain ⟨a1, c1, rfl⟩ := row_form hown; have hwn := cp_after A.out hg; obtain ⟨x0, x1, x2⟩ := Hc.out w1 hwn; have HO1 := hide hown; have HW1 := hide hwn; have HF1 := hide (cp_f hwn); clear hown hg hne hwn)
      | (refine step_append_empty rfl (.tmp 7) (.tmp 11) 22 rfl w.heap.size w0.heap.size i0 (.agg #[.int .i64 0, .slice none 0 0, .int .i64 0]) 40 Try.underlying22 Hi.out Hz0.out Hz1.out Hz2.out rfl w.heap.size ?_ B0.out.2.2 B0.out.2.1 (.slice la L.length lc) L.length (aflat L) (by simp [Act.eval]) (HrowL.out _ B0.out.1) HoneL.out (by unfold maxLen; omega) (by omega) B0.out.1.size ?_; (focus (simp [Act.eval]; done)); intro v1 w1 hown hg hne; obtain ⟨a1, c1, rfl⟩ := row_form hown; have hwn := cp_after B0.out hg; obtain ⟨x0, x1, x2⟩ := Hc.out w1 hwn; have HO1 := hide hown; have HP1 := hide (cp_pend B0.out B1.out (by omega) hg hne); have HW1 := hide hwn; clear hown hg hne hwn)
      | (refine step_append_empty rfl (.tmp 7) (.tmp 11) 22 rfl w.heap.size w0.heap.size i0 (.agg #[.int .i64 0, .slice none 0 0, .int .i64 0]) 40 Try.underlying22 Hi.out Hz0.out Hz1.out Hz2.out rfl (w.heap.size + 1) ?_ B1.out.2.2 B1.out.2.1 (.slice la L.length lc) L.length (aflat L) (by simp [Act.eval]) (HrowL.out _ B1.out.1) HoneL.out (by unfold maxLen; omega) (by omega) B1.out.1.size ?_; (focus (simp [Act.eval]; done)); intro v1 w1 hown hg hne; obtain ⟨a1, c1, rfl⟩ := row_form hown; have hwn := cp_after B1.out hg; obtain ⟨x0, x1, x2⟩ := Hc.out w1 hwn; have HO1 := hide hown; have HP1 := hide (cp_pend B1.out B0.out (by omega) hg hne); have HW1 := hide hwn; clear hown hg hne hwn)
      | (refine step_append_empty rfl (.tmp 7) (.tmp 11) 22 rfl w.heap.size w0.heap.size i0 (.agg #[.int .i64 0, .slice none 0 0, .int .i64 0]) 40 Try.underlying22 Hi.out Hz0.out Hz1.out Hz2.out rfl w.heap.size ?_ HP2.out.1.2.2 HP2.out.1.2.1 (.slice la L.length lc) L.length (aflat L) (by simp [Act.eval]) (HrowL.out _ HP2.out.1.1) HoneL.out (by unfold maxLen; omega) (by omega) HP2.out.1.1.size ?_; (focus (simp [Act.eval]; done)); intro v1 w1 hown hg hne; obtain ⟨a1, c1, rfl⟩ := row_form hown; have hwn := cp_after HP2.out.1 hg; obtain ⟨x0, x1, x2⟩ := Hc.out w1 hwn; have HO1' := hide hown; have HO2' := hide (cp_keep HO2.out hg HP2.out.2); have HW := hide hwn; clear hown hg hne hwn HO2; have HO1 := HO1'; have HO2 := HO2'; clear HO1' HO2')
      | (refine step_append_empty rfl (.tmp 7) (.tmp 11) 22 rfl w.heap.size w0.heap.size i0 (.agg #[.int .i64 0, .slice none 0 0, .int .i64 0]) 40 Try.underlying22 Hi.out Hz0.out Hz1.out Hz2.out rfl (w.heap.size + 1) ?_ HP2.out.1.2.2 HP2.out.1.2.1 (.slice la L.length lc) L.length (aflat L) (by simp [Act.eval]) (HrowL.out _ HP2.out.1.1) HoneL.out (by unfold maxLen; omega) (by omega) HP2.out.1.1.size ?_; (focus (simp [Act.eval]; done)); intro v1 w1 hown hg hne; obtain ⟨a1, c1, rfl⟩ := row_form hown; have hwn := cp_after HP2.out.1 hg; obtain ⟨x0, x1, x2⟩ := Hc.out w1 hwn; have HO1' := hide hown; have HO2' := hide (cp_keep HO2.out hg HP2.out.2); have HW := hide hwn; clear hown hg hne hwn HO2; have HO1 := HO1'; have HO2 := HO2'; clear HO1' HO2')
      | (refine step_append_empty rfl (.tmp 7) (.tmp 11) 22 rfl w.heap.size w0.heap.size i0 (.agg #[.int .i64 0, .slice none 0 0, .int .i64 0]) 40 Try.underlying22 Hi.out Hz0.out Hz1.out Hz2.out rfl w2.heap.size ?_ HF2.out.2.2 HF2.out.2.1 (.slice la L.length lc) L.length (aflat L) (by simp [Act.eval]) (HrowL.out _ HF2.out.1) HoneL.out (by unfold maxLen; omega) (by omega) HF2.out.1.size ?_; (focus (simp [Act.eval]; done)); intro v1 w1 hown hg hne; obtain ⟨a1, c1, rfl⟩ := row_form hown; have hwn := cp_after HF2.out hg; obtain ⟨x0, x1, x2⟩ := Hc.out w1 hwn; have HO1' := hide hown; have HO2' := hide (cp_keep_new HO2.out hg); have HW := hide hwn; clear hown hg hne hwn HO2; have HO1 := HO1'; have HO2 := HO2'; clear HO1' HO2')
      | (refine step_append_empty rfl (.tmp 13) (.tmp 17) 22 rfl w.heap.size w0.heap.size i0 (.agg #[.int .i64 0, .slice none 0 0, .int .i64 0]) 40 Try.underlying22 Hi.out Hz0.out Hz1.out Hz2.out rfl w.heap.size ?_ A.out.2.2 A.out.2.1 (.slice va F.length vc) F.length (aflat F) (by simp [Act.eval]) (HrowF.out _ A.out.1) HoneF.out (by unfold maxLen; omega) (by omega) A.out.1.size ?_; (focus (simp [Act.eval]; done)); intro v2 w2 hown hg hne; obtain ⟨a2, c2, rfl⟩ := row_form hown; have hwn := cp_after A.out hg; obtain ⟨x0, x1, x2⟩ := Hc.out w2 hwn; have HO2 := hide hown; have HW2 := hide hwn; have HF2 := hide (cp_f hwn); clear hown hg hne hwn)
      | (refine step_append_empty rfl (.tmp 13) (.tmp 17) 22 rfl w.heap.size w0.heap.size i0 (.agg #[.int .i64 0, .slice none 0 0, .int .i64 0]) 40 Try.underlying22 Hi.out Hz0.out Hz1.out Hz2.out rfl w.heap.size ?_ B0.out.2.2 B0.out.2.1 (.slice va F.length vc) F.length (aflat F) (by simp [Act.eval]) (HrowF.out _ B0.out.1) HoneF.out (by unfold maxLen; omega) (by omega) B0.out.1.size ?_; (focus (simp [Act.eval]; done)); intro v2 w2 hown hg hne; obtain ⟨a2, c2, rfl⟩ := row_form hown; have hwn := cp_after B0.out hg; obtain ⟨x0, x1, x2⟩ := Hc.out w2 hwn; have HO2 := hide hown; have HP2 := hide (cp_pend B0.out B1.out (by omega) hg hne); have HW2 := hide hwn; clear hown hg hne hwn)
      | (refine step_append_empty rfl (.tmp 13) (.tmp 17) 22 rfl w.heap.size w0.heap.size i0 (.agg #[.int .i64 0, .slice none 0 0, .int .i64 0]) 40 Try.underlying22 Hi.out Hz0.out Hz1.out Hz2.out rfl (w.heap.size + 1) ?_ B1.out.2.2 B1.out.2.1 (.slice va F.length vc) F.length (aflat F) (by simp [Act.eval]) (HrowF.out _ B1.out.1) HoneF.out (by unfold maxLen; omega) (by omega) B1.out.1.size ?_; (focus (simp [Act.eval]; done)); intro v2 w2 hown hg hne; obtain ⟨a2, c2, rfl⟩ := row_form hown; have hwn := cp_after B1.out hg; obtain ⟨x0, x1, x2⟩ := Hc.out w2 hwn; have HO2 := hide hown; have HP2 := hide (cp_pend B1.out B0.out (by omega) hg hne); have HW2 := hide hwn; clear hown hg hne hwn)
      | (refine step_append_empty rfl (.tmp 13) (.tmp 17) 22 rfl w.heap.size w0.heap.size i0 (.agg #[.int .i64 0, .slice none 0 0, .int .i64 0]) 40 Try.underlying22 Hi.out Hz0.out Hz1.out Hz2.out rfl w.heap.size ?_ HP1.out.1.2.2 HP1.out.1.2.1 (.slice va F.length vc) F.length (aflat F) (by simp [Act.eval]) (HrowF.out _ HP1.out.1.1) HoneF.out (by unfold maxLen; omega) (by omega) HP1.out.1.1.size ?_; (focus (simp [Act.eval]; done)); intro v2 w2 hown hg hne; obtain ⟨a2, c2, rfl⟩ := row_form hown; have hwn := cp_after HP1.out.1 hg; obtain ⟨x0, x1, x2⟩ := Hc.out w2 hwn; have HO2' := hide hown; have HO1' := hide (cp_keep HO1.out hg HP1.out.2); have HW := hide hwn; clear hown hg hne hwn HO1; have HO2 := HO2'; have HO1 := HO1'; clear HO2' HO1')
      | (refine step_append_empty rfl (.tmp 13) (.tmp 17) 22 rfl w.heap.size w0.heap.size i0 (.agg #[.int .i64 0, .slice none 0 0, .int .i64 0]) 40 Try.underlying22 Hi.out Hz0.out Hz1.out Hz2.out rfl (w.heap.size + 1) ?_ HP1.out.1.2.2 HP1.out.1.2.1 (.slice va F.length vc) F.length (aflat F) (by simp [Act.eval]) (HrowF.out _ HP1.out.1.1) HoneF.out (by unfold maxLen; omega) (by omega) HP1.out.1.1.size ?_; (focus (simp [Act.eval]; done)); intro v2 w2 hown hg hne; obtain ⟨a2, c2, rfl⟩ := row_form hown; have hwn := cp_after HP1.out.1 hg; obtain ⟨x0, x1, x2⟩ := Hc.out w2 hwn; have HO2' := hide hown; have HO1' := hide (cp_keep HO1.out hg HP1.out.2); have HW := hide hwn; clear hown hg hne hwn HO1; have HO2 := HO2'; have HO1 := HO1'; clear HO2' HO1')
      | (refine step_append_empty rfl (.tmp 13) (.tmp 17) 22 rfl w.heap.size w0.heap.size i0 (.agg #[.int .i64 0, .slice none 0 0, .int .i64 0]) 40 Try.underlying22 Hi.out Hz0.out Hz1.out Hz2.out rfl w1.heap.size ?_ HF1.out.2.2 HF1.out.2.1 (.slice va F.length vc) F.length (aflat F) (by simp [Act.eval]) (HrowF.out _ HF1.out.1) HoneF.out (by unfold maxLen; omega) (by omega) HF1.out.1.size ?_; (focus (simp [Act.eval]; done)); intro v2 w2 hown hg hne; obtain ⟨a2, c2, rfl⟩ := row_form hown; have hwn := cp_after HF1.out hg; obtain ⟨x0, x1, x2⟩ := Hc.out w2 hwn; have HO2' := hide hown; have HO1' := hide (cp_keep_new HO1.out hg); have HW := hide hwn; clear hown hg hne hwn HO1; have HO2 := HO2'; have HO1 := HO1'; clear HO2' HO1'))
  all_goals
    go_wp2
    have hfin := cp_ref H.out HW.out HO1.out HO2.out
    go_ret
    exact ⟨_, _, _, rfl, HW.out.size, hfin.1, hfin.2⟩
end Go.Proofs.Ytelgajgghgknnaa
