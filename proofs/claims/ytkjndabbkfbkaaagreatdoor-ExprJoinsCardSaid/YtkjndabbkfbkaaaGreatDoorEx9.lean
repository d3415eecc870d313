/- expr: Parse. -/
import Derived.Test.YtkjndabbkfbkaaaGreatDoorEx8
import Derived.Recover
namespace Go.Proofs.YtkjndabbkfbkaaaGreatDoor
open Go Go.RowKit

theorem nil_same (w : World) : (binOp BinOp.eql 20 .nilIface .nilIface).run Tryz.prog w = .ok (.bool true) w := by kernel_rfl
theorem stop_other (er : Int) (w : World) : (binOp BinOp.eql 20 (.iface 84 (.int .i64 er)) .nilIface).run Tryz.prog w = .ok (.bool false) w := by kernel_rfl
theorem stop_is (er : Int) (w : World) : (Instr.typeAssert (.iface 84 (.int .i64 er)) 20 84 true).run Tryz.prog w = .ok (.tuple #[.int .i64 er, .bool true]) w := by kernel_rfl
theorem one_cell {w : World} {b : Nat} {x : Value} {t : TypeId} (h : w.heap[b]? = some (.cells #[x] t (0, 0))) : w.cell? ⟨b, 0, none⟩ = some x ∧ w.frozen? ⟨b, 0, none⟩ = false :=
  ⟨by simp only [World.cell?, h]; rfl, by simp only [World.frozen?, h]; simp⟩
theorem five_allocs (w : World) (o0 o1 o2 o3 o4 : Obj) : ((((((w.alloc o0).alloc o1).alloc o2).alloc o3).alloc o4).heap[w.heap.size]? = some o0 ∧ (((((w.alloc o0).alloc o1).alloc o2).alloc o3).alloc o4).heap[w.heap.size + 1]? = some o1 ∧ (((((w.alloc o0).alloc o1).alloc o2).alloc o3).alloc o4).heap[w.heap.size + 1 + 1]? = some o2 ∧
    (((((w.alloc o0).alloc o1).alloc o2).alloc o3).alloc o4).heap[w.heap.size + 1 + 1 + 1]? = some o3 ∧ (((((w.alloc o0).alloc o1).alloc o2).alloc o3).alloc o4).heap[w.heap.size + 1 + 1 + 1 + 1]? = some o4) := by
  have z1 : (w.alloc o0).heap.size = w.heap.size + 1 := by simp
  have z2 : ((w.alloc o0).alloc o1).heap.size = w.heap.size + 1 + 1 := by simp
  have z3 : (((w.alloc o0).alloc o1).alloc o2).heap.size = w.heap.size + 1 + 1 + 1 := by simp
  have z4 : ((((w.alloc o0).alloc o1).alloc o2).alloc o3).heap.size = w.heap.size + 1 + 1 + 1 + 1 := by simp
  have h0 := heap_alloc0 w o0
  have h1 := heap_alloc0 (w.alloc o0) o1
  have h2 := heap_alloc0 ((w.alloc o0).alloc o1) o2
  have h3 := heap_alloc0 (((w.alloc o0).alloc o1).alloc o2) o3
  have h4 := heap_alloc0 ((((w.alloc o0).alloc o1).alloc o2).alloc o3) o4
  rw [z1] at h1
  rw [z2] at h2
  rw [z3] at h3
  rw [z4] at h4
  refine ⟨?_, ?_, ?_, ?_, h4⟩
  · rw [Below.heap_alloc _ _ _ (by omega), Below.heap_alloc _ _ _ (by omega), Below.heap_alloc _ _ _ (by omega), Below.heap_alloc _ _ _ (by omega)]
    exact h0
  · rw [Below.heap_alloc _ _ _ (by omega), Below.heap_alloc _ _ _ (by omega), Below.heap_alloc _ _ _ (by omega)]
    exact h1
  · rw [Below.heap_alloc _ _ _ (by omega), Below.heap_alloc _ _ _ (by omega)]
    exact h2
  · rw [Below.heap_alloc _ _ _ (by omega)]
    exact h3
theorem frame18 (a b c d x : Value) : (#[a, b, c, d] ++ (Array.replicate 14 undef).setIfInBounds 3 x) = #[a, b, c, d, undef, undef, undef, x, undef, undef, undef, undef, undef, undef, undef, undef, undef, undef] := rfl
set_option maxRecDepth 100000 in
theorem catch_idle (a0 a1 a2 a3 : Addr) (w : World) :
    CallsD Tryz.prog 45 #[.pointer (some a0), .pointer (some a1), .pointer (some a2), .pointer (some a3)] .returning w fun e u' w' => e = .returned (.tuple #[]) ∧ u' = .returning ∧ w' = w := by
  have hnil := nil_same
  refine callsD_of_wpS Tryz.func45 rfl fun c₀ cs hu => ?_
  apply wpS_seq
  apply wpS_region
  simp [wpOpsS, go_sem, recoverD, hu, Tryz.ntmps45, Exit.thenS]
  refine wpS_of_wp ?_
  rw [frame18]
  go_wp2_with fail
  refine ⟨rfl, .returning, ?_, .tuple #[], ?_, rfl, rfl, rfl⟩
  · rw [← hu]
  · simp [results, Tryz.results45, go_sem]
set_option maxRecDepth 100000 in
theorem catch_stop (b p1 p2 p3 p0 : Nat) (er : Int) (older : List PanicEntry) (at' : Int) (w : World) (h0 : w.cell? ⟨p0, 0, none⟩ = some (.pointer (some ⟨b, 0, none⟩))) (h1 : w.cell? ⟨b, 1, none⟩ = some (.int .i64 at'))
    (x1 x2 x3 : Value) (c1 : w.cell? ⟨p1, 0, none⟩ = some x1) (c2 : w.cell? ⟨p2, 0, none⟩ = some x2) (c3 : w.cell? ⟨p3, 0, none⟩ = some x3) (f1 : w.frozen? ⟨p1, 0, none⟩ = false) (f2 : w.frozen? ⟨p2, 0, none⟩ = false) (f3 : w.frozen? ⟨p3, 0, none⟩ = false)
    (d12 : ¬ p1 = p2) (d13 : ¬ p1 = p3) (d23 : ¬ p2 = p3) :
    CallsD Tryz.prog 45 #[.pointer (some ⟨p0, 0, none⟩), .pointer (some ⟨p1, 0, none⟩), .pointer (some ⟨p2, 0, none⟩), .pointer (some ⟨p3, 0, none⟩)] (.panicking ({ v := .iface 84 (.int .i64 er), recovered := false } :: older)) w fun e u' w' =>
      e = .returned (.tuple #[]) ∧ u' = .panicking ({ v := .iface 84 (.int .i64 er), recovered := true } :: older) ∧ w' = ((w.setCell ⟨p1, 0, none⟩ (.slice none 0 0)).setCell ⟨p2, 0, none⟩ (.int .i64 at')).setCell ⟨p3, 0, none⟩ (.int .i64 er) := by
  have hst := stop_other er
  have hta := stop_is er
  refine callsD_of_wpS Tryz.func45 rfl fun c₀ cs hu => ?_
  apply wpS_seq
  apply wpS_region
  simp [wpOpsS, go_sem, recoverD, hu, Tryz.ntmps45, Exit.thenS]
  refine wpS_of_wp ?_
  rw [frame18]
  go_wp2_with fail
  refine ⟨rfl, _, rfl, .tuple #[], ?_, rfl, rfl, rfl⟩
  simp [results, Tryz.results45, go_sem]
/-- What Parse hands back. -/
def PPost (w : World) (ts : List Tkn) (n : Nat) (x : ExR) (e : Ending) (w' : World) : Prop :=
  Below w.heap.size w w' ∧ match x with
    | .error p => e = .returned (.tuple #[.slice none 0 0, .int .i64 ((ts.length - p.2.length : Nat) : Int), .int .i64 p.1])
    | .ok p => if 60 < p.1.size then e = .returned (.tuple #[.slice none 0 0, .int .i64 (n : Int), .int .i64 7]) else
        ∃ v, e = .returned (.tuple #[v, .int .i64 ((ts.length - p.2.length : Nat) : Int), .int .i64 0]) ∧ TrIs w' w.heap.size [] v (p.1.flat 0)
set_option maxRecDepth 100000 in
set_option maxHeartbeats 4000000 in
theorem xparse_any {w : World} {vl : Value} {ts : List Tkn} (ht : TkIs w vl ts) (hn : ∀ t ∈ ts, t.w.k = 1 → t.w.t ≠ [40]) (hbig : ts.length ≤ 1000000) (n : Nat) (hnl : n ≤ ts.length) :
    Calls Tryz.prog 29 #[vl, .int .i64 (n : Int)] w (PPost w ts n (lvlE 0 0 (ts.drop n))) := by
  obtain ⟨va, vc, rfl⟩ := ht.form
  have hmf : ∀ (fn : Fn) (first cap : Array Value) (w : World), (Instr.makeFunc fn first cap).run Tryz.prog w = .ok (.func fn first cap) w := fun _ _ _ _ => rfl
  have i0 : ¬ ((n : Int) < 0) := by omega
  have i1 : ¬ ((ts.length : Int) < (n : Int)) := by omega
  have i2 : decide ((n : Int) < 0) = false := by simp
  have i3 : decide ((ts.length : Int) < (n : Int)) = false := by simp; omega
  obtain ⟨x, hx⟩ : ∃ x, lvlE 0 0 (ts.drop n) = x := ⟨_, rfl⟩
  rw [hx]
  obtain ⟨W5, hW5⟩ : ∃ W5, ((((w.alloc (.cells #[.slice none 0 0] 24)).alloc (.cells #[.int .i64 0] 3)).alloc (.cells #[.int .i64 0] 27)).alloc (.cells #[.slice va ts.length vc, .int .i64 (n : Int), .int .i64 0, .slice none 0 0] 83)).alloc (.cells #[.pointer (some ⟨w.heap.size + 1 + 1 + 1, 0, none⟩)] 81) = W5 := ⟨_, rfl⟩
  have hb5 : Below w.heap.size w W5 := by
    rw [← hW5]
    exact (((((Below.refl _ w).alloc (Nat.le_refl _) _).alloc (by simp) _).alloc (by simp; omega) _).alloc (by simp; omega) _).alloc (by simp; omega) _
  obtain ⟨q0, q1, q2, q3, q4⟩ : W5.heap[w.heap.size]? = some (.cells #[.slice none 0 0] 24 (0, 0)) ∧ W5.heap[w.heap.size + 1]? = some (.cells #[.int .i64 0] 3 (0, 0)) ∧ W5.heap[w.heap.size + 1 + 1]? = some (.cells #[.int .i64 0] 27 (0, 0)) ∧
      W5.heap[w.heap.size + 1 + 1 + 1]? = some (.cells #[.slice va ts.length vc, .int .i64 (n : Int), .int .i64 0, .slice none 0 0] 83 (0, 0)) ∧ W5.heap[w.heap.size + 1 + 1 + 1 + 1]? = some (.cells #[.pointer (some ⟨w.heap.size + 1 + 1 + 1, 0, none⟩)] 81 (0, 0)) := by
    rw [← hW5]
    exact five_allocs w _ _ _ _ _
  have hlen : ts.length - (ts.drop n).length = n := by rw [List.length_drop]; omega
  have hR : RdAt W5 w.heap.size [w.heap.size + 1] (w.heap.size + 1 + 1 + 1) (.slice va ts.length vc) ts (ts.drop n) 0 (.slice none 0 0) [] :=
    ⟨⟨n, rfl⟩, ht.below hb5, hn, ht.lt, by omega, fun x h => (by simp at h; subst h; have := lt_of_heap q1; exact this), by omega, hbig, by simp only [List.length_nil, List.length_drop]; omega, by rw [hlen]; exact q3, [], World.ownsRow_nil _ _ _ _, trivial⟩
  have hc := level_any w.heap.size (w.heap.size + 1 + 1 + 1) (.slice va ts.length vc) ts _ [w.heap.size + 1] 0 0 (ts.drop n) W5 (.slice none 0 0) [] (by omega) (Nat.lt_succ_self _) hR hb5.size
  rw [hx] at hc
  have Hc : Hid (Calls Tryz.prog 46 #[.pointer (some ⟨w.heap.size + 1 + 1 + 1, 0, none⟩), .int .i64 0] W5 (XPost W5 w.heap.size [w.heap.size + 1] (w.heap.size + 1 + 1 + 1) (.slice va ts.length vc) ts 0 (.slice none 0 0) [] x)) := hide hc
  have HB5 := hide hb5
  have hap := fun {p : Nat} {cs : Array Value} {T : TypeId} (h : W5.heap[p]? = some (.cells cs T (0, 0))) (h1 : 83 ≠ T) (h2 : 34 ≠ T) => hR.apart h h1 h2
  have Q0 := hide (And.intro q0 (hap q0 (by decide) (by decide)))
  have Q1 := hide (And.intro q1 (hap q1 (by decide) (by decide)))
  have Q2 := hide (And.intro q2 (hap q2 (by decide) (by decide)))
  have Q4 := hide (And.intro q4 (hap q4 (by decide) (by decide)))
  clear hb5 q0 q1 q2 q3 q4 hR hc hlen hap
  subst hW5
  have hcl := Hc.out
  clear hcl
  go_enter_defers Tryz.func29, Tryz.ntmps29
  go_wp2_with fail
  (with_reducible refine Hc.out.mono ?_)
  rintro e V1 hp
  cases x with
  | error p =>
    obtain ⟨er, q⟩ := p
    obtain ⟨rfl, ⟨dd, vv, hrb⟩, ho⟩ := hp
    obtain ⟨a0, af0⟩ := one_cell (ho.cells_of Q0.out.1 Q0.out.2)
    obtain ⟨a1, af1⟩ := one_cell (ho.cells_of Q1.out.1 Q1.out.2)
    obtain ⟨a2, af2⟩ := one_cell (ho.cells_of Q2.out.1 Q2.out.2)
    obtain ⟨a4, _⟩ := one_cell (ho.cells_of Q4.out.1 Q4.out.2)
    obtain ⟨_, b1, _⟩ := cells4 hrb
    have hbV : Below w.heap.size w V1 := below_only HB5.out ho (by simp [Value.ownBlock]; omega) (by have := HB5.out.size; exact this)
    have HBV := hide hbV
    have hq : ts.length - q.length = ts.length - q.length := rfl
    obtain ⟨m, hm⟩ : ∃ m, ts.length - q.length = m := ⟨_, rfl⟩
    rw [hm] at b1
    have Hm := hide hm
    clear hrb ho hbV hq hm hx Q0 Q1 Q2 Q4
    go_wp2_with fail
    refine leaves_cons (f := 45) (args := #[.pointer (some ⟨w.heap.size + 1 + 1 + 1 + 1, 0, none⟩), .pointer (some ⟨w.heap.size, 0, none⟩), .pointer (some ⟨w.heap.size + 1, 0, none⟩), .pointer (some ⟨w.heap.size + 1 + 1, 0, none⟩)]) (by simp) (by simp [go_sem]) ?_
    refine (catch_stop (w.heap.size + 1 + 1 + 1) w.heap.size (w.heap.size + 1) (w.heap.size + 1 + 1) (w.heap.size + 1 + 1 + 1 + 1) er [] (m : Int) V1 a4 b1 _ _ _ a0 a1 a2 af0 af1 af2 (by omega) (by omega) (by omega)).mono ?_
    rintro e u' w'' ⟨rfl, rfl, rfl⟩
    refine ⟨.tuple #[.slice none 0 0, .int .i64 (m : Int), .int .i64 er], ?_, ?_⟩
    · simp [results, Tryz.results29, go_sem, *]
    · refine ⟨((HBV.out.setCell (Nat.le_refl _) _).setCell (by simp) _).setCell (by simp; omega) _, ?_⟩
      rw [← Hm.out]
  | ok p =>
    obtain ⟨a, q⟩ := p
    obtain ⟨rfl, v1, hr1, hch⟩ := hp
    have ho := hch.only
    obtain ⟨a0, af0⟩ := one_cell (ho.cells_of Q0.out.1 Q0.out.2)
    obtain ⟨a1, af1⟩ := one_cell (ho.cells_of Q1.out.1 Q1.out.2)
    obtain ⟨a2, af2⟩ := one_cell (ho.cells_of Q2.out.1 Q2.out.2)
    obtain ⟨a4, _⟩ := one_cell (ho.cells_of Q4.out.1 Q4.out.2)
    obtain ⟨_, b1, _, b3, _⟩ := cells4 hr1.blk
    have hbV : Below w.heap.size w V1 := below_only HB5.out ho (by simp [Value.ownBlock]; omega) (by have := HB5.out.size; exact this)
    obtain ⟨kvs, hk1, hk2⟩ := hr1.tree
    obtain ⟨la, lc, rfl⟩ := row_form hk1
    simp only [List.nil_append, List.length_nil, Ex.flat_len] at b3 hk1 hr1 hk2
    have htr : TrIs V1 w.heap.size [w.heap.size + 1] (.slice la a.size lc) (a.flat 0) := ⟨kvs, by rw [Ex.flat_len]; exact hk1, hk2⟩
    have hfew := hr1.few
    rw [Ex.flat_len] at hfew
    have HBV := hide hbV
    have HTR := hide htr
    have HH0 := hide (ho.cells_of Q0.out.1 Q0.out.2)
    have HH1 := hide (ho.cells_of Q1.out.1 Q1.out.2)
    have HH2 := hide (ho.cells_of Q2.out.1 Q2.out.2)
    obtain ⟨m, hm⟩ : ∃ m, ts.length - q.length = m := ⟨_, rfl⟩
    rw [hm] at b1
    have Hm := hide hm
    clear hr1 hch ho hbV hk1 hk2 htr hm hx Q0 Q1 Q2 Q4
    by_cases h60 : 60 < a.size
    · have j1 : decide ((60 : Int) < (a.size : Int)) = true := by simp; omega
      have j2 : (60 : Int) < (a.size : Int) := by omega
      have H60 := hide h60
      clear h60
      go_wp2_with fail
      refine leaves_cons (f := 45) (args := #[.pointer (some ⟨w.heap.size + 1 + 1 + 1 + 1, 0, none⟩), .pointer (some ⟨w.heap.size, 0, none⟩), .pointer (some ⟨w.heap.size + 1, 0, none⟩), .pointer (some ⟨w.heap.size + 1 + 1, 0, none⟩)]) (by simp) (by simp [go_sem]) ?_
      refine (catch_idle _ _ _ _ _).mono ?_
      rintro e u' w'' ⟨rfl, rfl, rfl⟩
      refine ⟨.tuple #[.slice none 0 0, .int .i64 (n : Int), .int .i64 7], ?_, ?_⟩
      · simp [results, Tryz.results29, go_sem, *]
      · refine ⟨((HBV.out.setCell (Nat.le_refl _) _).setCell (by simp) _).setCell (by simp; omega) _, ?_⟩
        show (if 60 < a.size then _ else _)
        rw [if_pos H60.out]
    · have j1 : decide ((60 : Int) < (a.size : Int)) = false := by simp; omega
      have j2 : (a.size : Int) ≤ 60 := by omega
      have H60 := hide h60
      clear h60
      go_wp2_with fail
      go_region
      go_wp2_with fail
      refine leaves_cons (f := 45) (args := #[.pointer (some ⟨w.heap.size + 1 + 1 + 1 + 1, 0, none⟩), .pointer (some ⟨w.heap.size, 0, none⟩), .pointer (some ⟨w.heap.size + 1, 0, none⟩), .pointer (some ⟨w.heap.size + 1 + 1, 0, none⟩)]) (by simp) (by simp [go_sem]) ?_
      refine (catch_idle _ _ _ _ _).mono ?_
      rintro e u' w'' ⟨rfl, rfl, rfl⟩
      refine ⟨.tuple #[.slice la a.size lc, .int .i64 (m : Int), .int .i64 0], ?_, ?_⟩
      · simp [results, Tryz.results29, go_sem, *]
      · have hO : Only [w.heap.size, w.heap.size + 1, w.heap.size + 1 + 1] V1 ((((V1.setCell ⟨w.heap.size, 0, none⟩ (.slice la a.size lc)).setCell ⟨w.heap.size + 1, 0, none⟩ (.int .i64 (m : Int))).setCell ⟨w.heap.size + 1 + 1, 0, none⟩ (.int .i64 0)).drew) :=
          Only.drew ((((Only.refl _ V1).setCell (.inl (by simp)) _).setCell (.inl (by simp)) _).setCell (.inl (by simp)) _)
        refine ⟨below_only HBV.out hO (by simp; omega) HBV.out.size, ?_⟩
        show (if 60 < a.size then _ else _)
        rw [if_neg H60.out]
        refine ⟨_, by rw [← Hm.out], HTR.out.imp (fun _ r => owns_only r hO fun k e hm => ?_) fun v n xs hx r => ⟨owns_only r hO fun k e hm => ?_, fun _ _ hm => (by cases hm)⟩⟩
        · simp only [List.mem_cons, List.not_mem_nil, or_false] at hm
          rcases hm with rfl | rfl | rfl
          · exact owns_not r HH0.out (by decide) e
          · exact owns_not r HH1.out (by decide) e
          · exact owns_not r HH2.out (by decide) e
        · simp only [List.mem_cons, List.not_mem_nil, or_false] at hm
          rcases hm with rfl | rfl | rfl
          · exact owns_not r HH0.out (by decide) e
          · exact hx _ e (by simp)
          · exact owns_not r HH2.out (by decide) e
end Go.Proofs.YtkjndabbkfbkaaaGreatDoor
