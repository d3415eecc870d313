/- witanlaw07.kids, witanref06.Name; what all nodes of what is read are. -/
import Derived.Test.YtkjndabbkfbkaaaGreatDoorExR
namespace Go.Proofs.YtkjndabbkfbkaaaGreatDoor
open Go Go.RowKit Go.Lib Go.Sort Go.Shelf

/-- How few, and how many, expressions a node of an op has. -/
def kidsL (op : Int) : Nat × Nat := if (4 ≤ op ∧ op ≤ 5) ∨ (7 ≤ op ∧ op ≤ 16) ∨ op = 21 ∨ op = 24 ∨ op = 25 then (2, 2) else if op = 6 ∨ op = 17 ∨ op = 18 ∨ op = 22 ∨ op = 23 then (1, 1)
  else if op = 19 ∨ op = 20 then (1, 8) else if op = 26 then (3, 3) else (0, 0)
set_option maxRecDepth 100000 in
set_option maxHeartbeats 4000000 in
theorem kids_any (op : Int) (h1 : 1 ≤ op) (h2 : op ≤ 26) (w : World) : Calls Tryz.prog 13 #[.int .u8 op] w fun e w' => e = .returned (.tuple #[.int .i64 ((kidsL op).1 : Int), .int .i64 ((kidsL op).2 : Int)]) ∧ w' = w := by
  obtain rfl | rfl | rfl | rfl | rfl | rfl | rfl | rfl | rfl | rfl | rfl | rfl | rfl | rfl | rfl | rfl | rfl | rfl | rfl | rfl | rfl | rfl | rfl | rfl | rfl | rfl : op = 1 ∨ op = 2 ∨ op = 3 ∨ op = 4 ∨ op = 5 ∨ op = 6 ∨ op = 7 ∨ op = 8 ∨ op = 9 ∨ op = 10 ∨ op = 11 ∨ op = 12 ∨ op = 13 ∨ op = 14 ∨ op = 15 ∨ op = 16 ∨ op = 17 ∨ op = 18 ∨ op = 19 ∨ op = 20 ∨ op = 21 ∨ op = 22 ∨ op = 23 ∨ op = 24 ∨ op = 25 ∨ op = 26 := by omega
  all_goals
    clear h1 h2
    go_enter Tryz.func13, Tryz.ntmps13
    go_wp2_with fail
    first
      | exact bodyPost_ret (v := .tuple #[.int .i64 0, .int .i64 0]) (by simp [results, Tryz.results13, go_sem]; done) rfl ⟨rfl, rfl⟩
      | exact bodyPost_ret (v := .tuple #[.int .i64 2, .int .i64 2]) (by simp [results, Tryz.results13, go_sem]; done) rfl ⟨rfl, rfl⟩
      | exact bodyPost_ret (v := .tuple #[.int .i64 1, .int .i64 1]) (by simp [results, Tryz.results13, go_sem]; done) rfl ⟨rfl, rfl⟩
      | exact bodyPost_ret (v := .tuple #[.int .i64 1, .int .i64 8]) (by simp [results, Tryz.results13, go_sem]; done) rfl ⟨rfl, rfl⟩
      | exact bodyPost_ret (v := .tuple #[.int .i64 3, .int .i64 3]) (by simp [results, Tryz.results13, go_sem]; done) rfl ⟨rfl, rfl⟩
theorem small06_any (c : UInt8) (w : World) : Calls Tryz.prog 47 #[.int .u8 (c.toNat : Int)] w fun e w' => e = .returned (.bool (lowC c)) ∧ w = w' := by
  rw [lowC_dec]
  obtain ⟨p, hp⟩ : ∃ p, decide (97 ≤ (c.toNat : Int)) = p := ⟨_, rfl⟩
  obtain ⟨q, hq⟩ : ∃ q, decide ((c.toNat : Int) ≤ 122) = q := ⟨_, rfl⟩
  cases p <;> cases q
  all_goals
    go_enter Tryz.func47, Tryz.ntmps47
    go_wp2
    go_ret
    exact ⟨by simp [hp, hq], rfl⟩
theorem digit06_any (c : UInt8) (w : World) : Calls Tryz.prog 48 #[.int .u8 (c.toNat : Int)] w fun e w' => e = .returned (.bool (digC c)) ∧ w = w' := by
  rw [digC_dec]
  obtain ⟨p, hp⟩ : ∃ p, decide (48 ≤ (c.toNat : Int)) = p := ⟨_, rfl⟩
  obtain ⟨q, hq⟩ : ∃ q, decide ((c.toNat : Int) ≤ 57) = q := ⟨_, rfl⟩
  cases p <;> cases q
  all_goals
    go_enter Tryz.func48, Tryz.ntmps48
    go_wp2
    go_ret
    exact ⟨by simp [hp, hq], rfl⟩
set_option maxRecDepth 100000 in
set_option maxHeartbeats 4000000 in
theorem run06_any (s : ByteArray) (w : World) (hsz : s.size ≤ 12) (h0 : 0 < s.size) (hl : lowC s[0] = true) (hn : ∀ i (h : i < s.size), namC s[i] = true) : Calls Tryz.prog 31 #[.string s, .int .i64 0] w fun e w' => e = .returned (.int .i64 (s.size : Int)) ∧ w' = w := by
  have hs0 := small06_any s[0] w
  rw [hl] at hs0
  have HS0 := hide hs0
  have HN := hide hn
  have i0 : (0 : Int) < (s.size : Int) := by omega
  have i1 : decide ((s.size : Int) ≤ 0) = false := decide_eq_false (by omega)
  have i2 : ¬ s = ByteArray.empty := fun e => by subst e; exact absurd h0 (by decide)
  clear hs0 hn hl
  go_enter Tryz.func31, Tryz.ntmps31
  go_wp2_with fail
  (with_reducible refine HS0.out.mono ?_)
  rintro e V ⟨rfl, rfl⟩
  go_wp2_with fail
  go_loopw [1] (fun v1 wr => ∃ j : Nat, j ≤ s.size ∧ v1 = .int .i64 j ∧ wr = w) (fun v1 _ => s.size - (intOf v1).toNat)
  case atStart => exact ⟨0, Nat.zero_le _, rfl, rfl⟩
  case round =>
    obtain ⟨j, hj, rfl, rfl⟩ := hrel
    by_cases hjl : j < s.size
    · have hnj := HN.out j hjl
      have k0 : (0 : Int) ≤ (j : Int) := by omega
      have k1 : (j : Int) < (s.size : Int) := by omega
      have k2 : decide ((j : Int) < (s.size : Int)) = true := by simp; omega
      have hs1 := small06_any s[j] wr
      have hd1 := digit06_any s[j] wr
      unfold namC at hnj
      obtain ⟨b1, hb1⟩ : ∃ b, lowC s[j] = b := ⟨_, rfl⟩
      rw [hb1] at hs1 hnj
      have Hs1 := hide hs1
      have Hd1 := hide hd1
      have Hnj := hide hnj
      clear hs1 hd1 hb1 hnj
      go_wp2_with fail
      (with_reducible refine Hs1.out.mono ?_)
      rintro e V ⟨rfl, rfl⟩
      cases b1 with
      | true =>
        clear Hd1 Hnj
        go_wp2_with fail
        go_roundw
        case rel => exact ⟨j + 1, by omega, by go_num, trivial⟩
        case measure => simp [intOf]; omega
      | false =>
        have hd2 : digC s[j] = true := by simpa using Hnj.out
        have hd1 := Hd1.out
        rw [hd2] at hd1
        have Hd2 := hide hd1
        clear Hd1 hd1 hd2 Hnj
        go_wp2_with fail
        (with_reducible refine Hd2.out.mono ?_)
        rintro e V ⟨rfl, rfl⟩
        go_wp2_with fail
        go_roundw
        case rel => exact ⟨j + 1, by omega, by go_num, trivial⟩
        case measure => simp [intOf]; omega
    · obtain rfl : j = s.size := by omega
      have k2 : decide ((s.size : Int) < (s.size : Int)) = false := by simp
      go_wp2_with fail
      go_ret
      exact ⟨rfl, rfl⟩
theorem name06_any (t : List UInt8) (w : World) (h : nameL t = true) : Calls Tryz.prog 14 #[.string ⟨t.toArray⟩] w fun e w' => e = .returned (.bool true) ∧ w' = w := by
  cases t with
  | nil => cases h
  | cons c r =>
    have h' : (decide (r.length < 12) && lowC c && r.all fun b => lowC b || digC b) = true := h
    simp only [Bool.and_eq_true, decide_eq_true_eq, List.all_eq_true] at h'
    obtain ⟨⟨h1, h2⟩, h3⟩ := h'
    obtain ⟨s, hs⟩ : ∃ s : ByteArray, ⟨(c :: r).toArray⟩ = s := ⟨_, rfl⟩
    have hd : dl s = c :: r := by rw [← hs]
    have hz : s.size = r.length + 1 := by rw [← dl_size, hd, List.length_cons]
    have hg : ∀ i (hi : i < s.size), (c :: r)[i]? = some s[i] := fun i hi => by rw [← hd]; exact dl_get hi
    rw [hs]
    have hr := run06_any s w (by omega) (by omega) (by
      have := hg 0 (by omega)
      simp only [List.getElem?_cons_zero, Option.some.injEq] at this
      rw [← this]
      exact h2) (fun i hi => by
      have := hg i hi
      cases i with
      | zero =>
        simp only [List.getElem?_cons_zero, Option.some.injEq] at this
        rw [← this]
        unfold namC
        rw [h2]
        rfl
      | succ i =>
        rw [List.getElem?_cons_succ] at this
        exact h3 _ (List.mem_of_getElem? this))
    have HR := hide hr
    have i0 : (0 : Int) < (s.size : Int) := by omega
    have i1 : (s.size : Int) ≤ 12 := by omega
    have i2 : decide ((s.size : Int) ≤ 12) = true := by simp; omega
    have i3 : decide ((0 : Int) < (s.size : Int)) = true := by simp; omega
    clear hr hg hs hd hz h h1 h2 h3
    go_enter Tryz.func14, Tryz.ntmps14
    go_wp2_with fail
    (with_reducible refine HR.out.mono ?_)
    rintro e V ⟨rfl, rfl⟩
    go_wp2_with fail
    go_ret
    exact ⟨rfl, rfl⟩
/-- What a node of what is read is. -/
structure NodeOk (h : Hd) (k : Nat) : Prop where
  few : (kidsL h.op).1 ≤ k
  many : k ≤ (kidsL h.op).2
  op1 : 1 ≤ h.op
  op2 : h.op ≤ 26
  line : 1 ≤ h.line
  col : 1 ≤ h.col
  v : h.op ≠ 1 → h.v = v0
  name : h.op = 2 → nameL h.name = true
  anon : h.op ≠ 2 → h.name = []
theorem nodeOk_mk {h : Hd} {k : Nat} (o : Int) (ho : h.op = o) (hk : (kidsL o).1 ≤ k ∧ k ≤ (kidsL o).2 ∧ 1 ≤ o ∧ o ≤ 26) (hl : 1 ≤ h.line) (hc : 1 ≤ h.col) (hv : o ≠ 1 → h.v = v0) (hn : o = 2 → nameL h.name = true) (ha : o ≠ 2 → h.name = []) : NodeOk h k := by
  subst ho
  exact ⟨hk.1, hk.2.1, hk.2.2.1, hk.2.2.2, hl, hc, hv, hn, ha⟩
theorem infix_in {r : List Tkn} : ∀ {l : List (List UInt8 × Int)}, infixH r l ≠ 0 → infixH r l ∈ l.map Prod.snd
  | [], h => absurd rfl h
  | (s, o) :: l, h => by
    unfold infixH at h ⊢
    by_cases e : isH s r = true
    · rw [if_pos e]
      exact List.mem_cons_self
    · rw [if_neg e] at h ⊢
      exact List.mem_cons_of_mem _ (infix_in h)
theorem opsL_range (n : Nat) : ∀ o ∈ (opsL n).map Prod.snd, (4 ≤ o ∧ o ≤ 5) ∨ (7 ≤ o ∧ o ≤ 16) := by
  unfold opsL
  repeat' split
  all_goals first | decide | (intro o ho; cases ho)
theorem read_nodes {l : List UInt8} {ts : List Tkn} (h : lexL l = .ok ts) {a : Ex} {q : List Tkn} (hx : lvlE 0 0 ts = .ok (a, q)) : a.All NodeOk := by
  refine exE_all (P := NodeOk) (W := fun t => Form t.w ∧ 1 ≤ t.line ∧ 1 ≤ t.col) ?_ ?_ ?_ ?_ (.lvl 0) 0 ts (by show 0 ≤ 7; omega) trivial (fun t ht => ⟨lex_form h t ht, (lex_places h t ht).1, (lex_places h t ht).2.2.1⟩) a q hx
  · rintro t hd ⟨hf, hl, hc⟩ he
    unfold leafH at he
    by_cases h1 : t.w.k = 4 ∨ t.w.k = 5 ∨ t.w.k = 6
    · rw [if_pos h1] at he
      injection he with he
      subst he
      exact nodeOk_mk 1 rfl (by decide) hl hc (fun e => absurd rfl e) (fun e => absurd e (by decide)) fun _ => rfl
    rw [if_neg h1] at he
    by_cases h2 : t.w.k = 2
    · rw [if_pos h2] at he
      injection he with he
      subst he
      refine nodeOk_mk 2 rfl (by decide) hl hc (fun _ => rfl) (fun _ => ?_) fun e => absurd rfl e
      show nameL t.w.t = true
      cases hf with
      | var _ ht _ => exact ht
      | name h _ _ => omega
      | self h _ _ => omega
      | num h _ _ => omega
      | str h _ _ _ => omega
      | sym h _ _ => omega
      | sign h _ _ => omega
    rw [if_neg h2] at he
    by_cases h3 : t.w.k = 3
    · rw [if_pos h3] at he
      injection he with he
      subst he
      exact nodeOk_mk 3 rfl (by decide) hl hc (fun _ => rfl) (fun e => absurd e (by decide)) fun _ => rfl
    rw [if_neg h3] at he
    by_cases h4 : t.w.k = 1
    · rw [if_pos h4] at he
      cases hcl : callL t.w.t with
      | some c => rw [hcl] at he; cases he
      | none =>
        rw [hcl] at he
        cases hll : litL t.w.t with
        | none => rw [hll] at he; cases he
        | some v =>
          rw [hll] at he
          injection he with he
          subst he
          exact nodeOk_mk 1 rfl (by decide) hl hc (fun e => absurd rfl e) (fun e => absurd e (by decide)) fun _ => rfl
    · rw [if_neg h4] at he
      cases he
  · rintro n t hn ⟨hf, hl, hc⟩
    rcases hn with rfl | rfl
    · exact nodeOk_mk 6 rfl (by decide) hl hc (fun _ => rfl) (fun e => absurd e (by decide)) fun _ => rfl
    · exact nodeOk_mk 17 rfl (by decide) hl hc (fun _ => rfl) (fun e => absurd e (by decide)) fun _ => rfl
  · rintro n t r ⟨hf, hl, hc⟩ hz
    have ho := opsL_range n _ (infix_in hz)
    obtain ⟨o, hoo⟩ : ∃ o, infixH (t :: r) (opsL n) = o := ⟨_, rfl⟩
    rw [hoo] at ho ⊢
    have hk : kidsL o = (2, 2) := by
      unfold kidsL
      rw [if_pos (by omega)]
    refine ⟨?_, ?_, ?_, ?_, hl, hc, fun _ => rfl, fun e => ?_, fun _ => rfl⟩
    · show (kidsL o).1 ≤ 2
      rw [hk]
      decide
    · show 2 ≤ (kidsL o).2
      rw [hk]
      decide
    · show 1 ≤ o
      omega
    · show o ≤ 26
      omega
    · have : o = 2 := e
      omega
  · rintro t c k ⟨hf, hl, hc⟩ he h1 h2
    obtain ⟨_, hcl, hln, hco, _⟩ := callH_le he
    have hk : kidsL c.op = (c.least, c.most) ∧ 18 ≤ c.op ∧ c.op ≤ 26 := by
      unfold callL at hcl
      repeat' split at hcl
      all_goals first | (injection hcl with hcl; injection hcl with e1 e2; injection e2 with e2 e3; rw [← e1, ← e2, ← e3]; decide) | cases hcl
    refine ⟨?_, ?_, ?_, ?_, ?_, ?_, fun _ => rfl, fun e => ?_, fun _ => rfl⟩
    · show (kidsL c.op).1 ≤ k
      rw [hk.1]
      exact h1
    · show k ≤ (kidsL c.op).2
      rw [hk.1]
      exact h2
    · show 1 ≤ c.op
      omega
    · show c.op ≤ 26
      omega
    · show 1 ≤ c.line
      omega
    · show 1 ≤ c.col
      omega
    · have : c.op = 2 := e
      omega
end Go.Proofs.YtkjndabbkfbkaaaGreatDoor

/- ExprShapes: the walk. -/
namespace Go.Proofs.YtkjndabbkfbkaaaGreatDoor
open Go Go.RowKit Go.Lib Go.Sort Go.Shelf

/-- Block b is a row of numbers. -/
def NumsAt (w : World) (b : Nat) (l : List Nat) : Prop := w.heap[b]? = some (.cells (nums l).toArray 3 (0, 0))
theorem NumsAt.cell {w : World} {b : Nat} {l : List Nat} (h : NumsAt w b l) {i : Nat} {x : Nat} (hx : l[i]? = some x) : w.cell? ⟨b, i, none⟩ = some (.int .i64 (x : Int)) := by
  unfold NumsAt at h
  simp only [World.cell?, h]
  simp [nums, hx]
theorem NumsAt.frozen {w : World} {b : Nat} {l : List Nat} (h : NumsAt w b l) (i : Nat) : w.frozen? ⟨b, i, none⟩ = false := by
  unfold NumsAt at h
  simp only [World.frozen?, h]
  simp
theorem NumsAt.set {w : World} {b : Nat} {l : List Nat} (h : NumsAt w b l) (i x : Nat) : NumsAt (w.setCell ⟨b, i, none⟩ (.int .i64 (x : Int))) b (l.set i x) := by
  unfold NumsAt at h ⊢
  rw [setCell_heap h]
  congr 2
  apply Array.ext'
  simp [nums, List.map_set]
theorem NumsAt.below {w w' : World} {b : Nat} {l : List Nat} (h : NumsAt w b l) (hb : Below w.heap.size w w') : NumsAt w' b l := (hb.block b (lt_of_heap h)).trans h
set_option maxRecDepth 100000 in
theorem make_ints (n : Nat) (hn : n ≤ 1000000) (w : World) : ∃ w', (Instr.makeSlice 30 (.int .i64 (n : Int)) (.int .i64 (n : Int))).run Tryz.prog w = .ok (.slice (some ⟨w.heap.size, 0, none⟩) n n) w' ∧ Below w.heap.size w w' ∧ NumsAt w' w.heap.size (List.replicate n 0) := by
  obtain ⟨i0, hi, hz0, hz1, hz2⟩ := intinfo_parts
  obtain ⟨w', hrun, hown, hg⟩ := run_make_full (P := Tryz.prog) w w.heap.size 30 3 i0 (.int .i64 0) 1 Tryz.underlying30 hi hz0 hz1 .i64 .i64 n (by rw [hz2]; omega) (by unfold maxLen; omega) (Nat.le_refl _)
  refine ⟨w', hrun, (Only.of_grown hg [] (fun k e => by cases e)).below, ?_⟩
  rcases hown.2 with ⟨e, _⟩ | ⟨g, cap, cur, e, _, hgb, _, _, hcs, hct⟩
  · cases e
  · injection e with e1 _ e3
    injection e1 with e1
    injection e1 with e1
    subst e1
    subst e3
    unfold NumsAt
    rw [hgb]
    congr 2
    apply Array.ext'
    rw [List.take_of_length_le (by rw [Array.length_toList, hcs]; omega)] at hct
    rw [hct]
    simp [madeCells, nums]
    rw [List.eq_replicate_iff]
    refine ⟨by simp, fun u hu => ?_⟩
    obtain ⟨x, _, rfl⟩ := List.mem_map.1 hu
    show (#[Value.int .i64 0] : Array Value)[x % 1]! = _
    rw [Nat.mod_one]
    rfl
/-- What is told of where nodes begin, ahead of the i-th. -/
def firsts (a : Ex) (i : Nat) : List Nat := (a.starts 0).take i ++ List.replicate (a.size - i) 0
theorem firsts_len (a : Ex) {i : Nat} (h : i ≤ a.size) : (firsts a i).length = a.size := by
  simp [firsts, Ex.starts_len]
  omega
theorem firsts_zero (a : Ex) : firsts a 0 = List.replicate a.size 0 := by simp [firsts]
theorem firsts_get (a : Ex) {i x : Nat} (h : x < i) : (firsts a i)[x]? = (a.starts 0)[x]? := by
  unfold firsts
  by_cases hx : x < a.size
  · rw [List.getElem?_append_left (by rw [List.length_take, Ex.starts_len]; omega), List.getElem?_take, if_pos h]
  · rw [List.getElem?_eq_none (by simp [Ex.starts_len]; omega), List.getElem?_eq_none (by rw [Ex.starts_len]; omega)]
theorem firsts_next (a : Ex) {i s : Nat} (h : i < a.size) (hs : (a.starts 0)[i]? = some s) : (firsts a i).set i s = firsts a (i + 1) := by
  unfold firsts
  obtain ⟨m, hm⟩ : ∃ m, a.size - i = m + 1 := ⟨a.size - i - 1, by omega⟩
  have hl : ((a.starts 0).take i).length = i := by rw [List.length_take, Ex.starts_len]; omega
  rw [List.set_append_right _ _ (by omega), hl, Nat.sub_self, hm, List.replicate_succ, List.set_cons_zero, show a.size - (i + 1) = m by omega]
  have hts : (a.starts 0).take (i + 1) = (a.starts 0).take i ++ [s] := by
    rw [List.take_add_one, hs]
    rfl
  rw [hts, List.append_assoc]
  rfl
theorem readL_err {l : List UInt8} {p : (Int × Int) × Int} (h : readL l = .error p) : p.2 ≠ 0 := by
  unfold readL at h
  cases hl : lexL l with
  | error e =>
    obtain ⟨a, b, q⟩ := e
    rw [hl] at h
    injection h with h
    have := ((LX_rise _ l 1 1 (Nat.le_refl _) (by decide)).1 a b q hl).2.2
    rw [← h]
    show q ≠ 0
    omega
  | ok ts =>
    rw [hl] at h
    simp only at h
    cases hx : lvlE 0 0 ts with
    | error e =>
      obtain ⟨er, q⟩ := e
      rw [hx] at h
      injection h with h
      have := exE_errs (.lvl 0) 0 ts (by show 0 ≤ 7; omega) _ (show exE (.lvl 0) 0 ts = _ from hx)
      rw [← h]
      show er ≠ 0
      simp only at this
      omega
    | ok x =>
      obtain ⟨a, q⟩ := x
      rw [hx] at h
      simp only at h
      split at h
      · injection h with h
        rw [← h]
        show (7 : Int) ≠ 0
        decide
      · split at h
        · cases h
        · injection h with h
          rw [← h]
          show (4 : Int) ≠ 0
          decide
/-- A tree that is read. -/
theorem readL_ok {l : List UInt8} {a : Ex} (h : readL l = .ok a) : ∃ ts, lexL l = .ok ts ∧ lvlE 0 0 ts = .ok (a, []) ∧ a.size ≤ 60 := by
  unfold readL at h
  cases hl : lexL l with
  | error e => rw [hl] at h; cases h
  | ok ts =>
    rw [hl] at h
    simp only at h
    cases hx : lvlE 0 0 ts with
    | error e => rw [hx] at h; cases h
    | ok x =>
      obtain ⟨b, q⟩ := x
      rw [hx] at h
      simp only at h
      split at h
      · cases h
      · rename_i h60
        split at h
        · rename_i hq
          injection h with h
          subst h
          subst hq
          exact ⟨ts, rfl, hx, by omega⟩
        · cases h
theorem read_all {l : List UInt8} {a : Ex} (h : readL l = .ok a) : a.All NodeOk := by
  obtain ⟨ts, h1, h2, _⟩ := readL_ok h
  exact read_nodes h1 h2
theorem kidsL_le (op : Int) : (kidsL op).2 ≤ 8 := by
  unfold kidsL
  repeat' split
  all_goals decide
theorem read_slim {l : List UInt8} {a : Ex} (h : readL l = .ok a) : Slim (a.flat 0) := fun n hn => by
  have h1 := flat_all a 0 (read_all h) n hn
  have h2 := h1.many
  have h3 := kidsL_le n.h.op
  omega

theorem nz_get (a : Ex) {i : Nat} (hi : i < ((a.flat 0).map Nd.z).length) : ∃ n, (a.flat 0)[i]? = some n ∧ ((a.flat 0).map Nd.z)[i] = n.z := by
  have hi' : i < (a.flat 0).length := by simpa using hi
  exact ⟨(a.flat 0)[i], List.getElem?_eq_getElem hi', by simp⟩
set_option maxRecDepth 100000 in
set_option maxHeartbeats 16000000 in
theorem shapes_ok (s : ByteArray) (w : World) (hR : Rd w) (hs : s.size ≤ 500) {a : Ex} (h : readL (dl s) = .ok a) : Calls Tryz.prog 3 #[.string s] w fun e w' => e = .returned (.bool true) ∧ Below w.heap.size w w' := by
  have h60 : a.size ≤ 60 := by obtain ⟨_, _, _, h3⟩ := readL_ok h; exact h3
  have hpos := a.size_pos
  have hslim := read_slim h
  have hall := flat_all a 0 (read_all h)
  have L1 := hide (rtree w (by omega) hR h)
  have HR := hide hR
  have i1 : decide ((500 : Int) < (s.size : Int)) = false := by simp; omega
  have HALL := hide hall
  have HSL := hide hslim
  clear hR h hslim hall
  go_enter Tryz.func3, Tryz.ntmps3
  go_wp2_with fail
  (with_reducible refine L1.out.mono ?_)
  rintro e V1 ⟨v1, rfl, ht1, hb1⟩
  have hz1 := ht1.z (by rw [Ex.flat_len]; omega) HSL.out
  obtain ⟨V, hV⟩ : ∃ V, V1.alloc (.cells #[.int .i64 0, .int .i64 0] 26) = V := ⟨_, rfl⟩
  have hbV : Below V1.heap.size V1 V := by rw [← hV]; exact (Below.refl _ _).alloc (Nat.le_refl _) _
  have hZ := hz1.below hbV
  have hB := hb1.trans (hbV.mono hb1.size)
  obtain ⟨hlz, va, vc, rfl, hnz⟩ := hZ
  have hZ : TrZ V (.slice va ((a.flat 0).map Nd.z).length vc) ((a.flat 0).map Nd.z) := ⟨hlz, va, vc, rfl, hnz⟩
  have hln : ((a.flat 0).map Nd.z).length = a.size := by rw [List.length_map, Ex.flat_len]
  rw [hln] at hZ
  obtain ⟨W0, hmk, hbW0, hnums⟩ := make_ints a.size (by omega) V
  have HZ := hide hZ
  have HB := hide hB
  have HLN := hide hln
  have hlt := lt_of_heap hnums
  rw [hln]
  obtain ⟨fb, hfb⟩ : ∃ fb, V.heap.size = fb := ⟨_, rfl⟩
  rw [hfb] at hmk hnums hbW0
  have HFB := hide hfb
  have HS : Hid (NumsAt W0 fb (firsts a 0) ∧ Below fb V W0) := hide ⟨by rw [firsts_zero]; exact hnums, hbW0⟩
  clear ht1 hz1 hbV hZ hB hnz hlz hb1 hnums hbW0 L1 hlt hln
  subst hV
  clear hfb
  go_wp2_with fail
  go_loopw [30] (fun v30 wr => ∃ i : Nat, i ≤ a.size ∧ v30 = .int .i64 i ∧ Hid (NumsAt wr fb (firsts a i) ∧ Below fb (V1.alloc (.cells #[.int .i64 0, .int .i64 0] 26)) wr)) (fun v30 _ => a.size - (intOf v30).toNat)
  case atStart => exact ⟨0, Nat.zero_le _, rfl, HS⟩
  case round =>
    obtain ⟨wo, rfl⟩ : ∃ wo : World, wo = wr := ⟨_, rfl⟩
    obtain ⟨i, hi, rfl, hq⟩ := hrel
    obtain ⟨hF, hBr⟩ := hq.out
    by_cases hil : i < a.size
    · have hBr' := HFB.out ▸ hBr
      obtain ⟨_, va', vc', ev, hnz⟩ := HZ.out
      injection ev with ev1 ev3 ev2
      subst ev1 ev2
      clear ev3
      have hil' : i < ((a.flat 0).map Nd.z).length := by rw [HLN.out]; exact hil
      obtain ⟨bx, ox, kx, rfl, hna, hki⟩ := hnz i hil'
      obtain ⟨n, hn1, hn2⟩ := nz_get a hil'
      rw [hn2] at hna hki
      have hna := hna.below hBr'
      have hok := HALL.out n (List.mem_of_getElem? hn1)
      obtain ⟨sx, hsx⟩ : ∃ sx, (a.starts 0)[i]? = some sx := ⟨_, List.getElem?_eq_getElem (by rw [Ex.starts_len]; exact hil)⟩
      obtain ⟨cs, hcs⟩ := a.cuts hn1 hsx
      obtain ⟨⟨op, ⟨vk, vn, vs⟩, nm, ln, cl⟩, kids⟩ := n
      obtain ⟨k1, k2, k3, k4, k5, k6, k7, k8, k9⟩ := hok
      simp only at k1 k2 k3 k4 k5 k6 k7 k8 k9
      obtain ⟨x0, x1, x2, x3, x4, x5, x6, x7⟩ := hna
      simp only [Nd.z] at x0 x1 x2 x3 x4 x5 x6 x7 hki
      obtain ⟨hkl, ka, kc, rfl, hkc0⟩ := hki
      have hkc : ∀ (j x : Nat), kids[j]? = some x → ∃ b off, ka = some ⟨b, off, none⟩ ∧ (V1.alloc (.cells #[.int .i64 0, .int .i64 0] 26)).cell? ⟨b, off + j, none⟩ = some (.int .i64 (x : Int)) := fun j x hj => by
        obtain ⟨hj1, hj2⟩ := List.getElem?_eq_some_iff.1 hj
        obtain ⟨b, off, e, hc⟩ := hkc0 j (by simpa using hj1)
        refine ⟨b, off, e, ?_⟩
        rw [hc]
        simp [hj2]
      rw [List.length_map] at hkl x5
      clear hkc0
      obtain ⟨few, many, hfm⟩ : ∃ x y, kidsL op = (x, y) := ⟨_, _, rfl⟩
      rw [hfm] at k1 k2
      simp only at k1 k2
      have hkd := kids_any op k3 k4
      rw [hfm] at hkd
      have hmany := kidsL_le op
      rw [hfm] at hmany
      simp only at hmany
      have Hkd := hide hkd
      have HF := hide hF
      have HBr := hide hBr
      have Hcs := hide hcs
      have Hkc := hide hkc
      have Hsx := hide hsx
      have d1 : decide (op < 1) = false := decide_eq_false (by omega)
      have d2 : decide (26 < op) = false := decide_eq_false (by omega)
      have d3 : decide ((kids.length : Int) < (few : Int)) = false := decide_eq_false (by omega)
      have d4 : decide ((many : Int) < (kids.length : Int)) = false := decide_eq_false (by omega)
      have d5 : decide (ln < 1) = false := decide_eq_false (by omega)
      have d6 : decide (cl < 1) = false := decide_eq_false (by omega)
      have j0 : (0 : Int) ≤ (i : Int) := by omega
      have j1 : (i : Int) < (a.size : Int) := by omega
      have hbx := lt_of_cell x0
      clear hq hF hBr hcs hkc hsx hkd hfm hn1 hn2 hnz HS hmk
      obtain ⟨W1, hW1⟩ : ∃ W1, wo.alloc (.cells #[.int .u8 op, .int .u8 vk, .int .i64 vn, .string ⟨vs.toArray⟩, .string ⟨nm.toArray⟩, .slice ka kids.length kc, .int .i64 ln, .int .i64 cl] 34) = W1 := ⟨_, rfl⟩
      have hp1 := heap_alloc0 wo (.cells #[.int .u8 op, .int .u8 vk, .int .i64 vn, .string ⟨vs.toArray⟩, .string ⟨nm.toArray⟩, .slice ka kids.length kc, .int .i64 ln, .int .i64 cl] 34)
      have hb1 : Below wo.heap.size wo W1 := by rw [← hW1]; exact (Below.refl _ wo).alloc (Nat.le_refl _) _
      rw [hW1] at hp1
      obtain ⟨n0, n1, n2, n3, n4, n5, n6, n7, _⟩ := nodeCells hp1
      have hF1 := HF.out.below hb1
      have hfi : (firsts a i)[i]? = some 0 ∨ True := .inr trivial
      have hnf := hF1.frozen i
      have hil2 : i < (firsts a i).length := by rw [firsts_len a hi]; exact hil
      have hFi := hF1.cell (List.getElem?_eq_getElem hil2)
      obtain ⟨W2, hW2⟩ : ∃ W2, W1.setCell ⟨fb, i, none⟩ (.int .i64 (i : Int)) = W2 := ⟨_, rfl⟩
      have hF2 := hF1.set i i
      rw [hW2] at hF2
      have hnp : wo.heap.size ∉ [fb] := by
        have := lt_of_heap HF.out
        simp
        omega
      have hO2 : Only [fb] W1 W2 := by rw [← hW2]; exact only_setCell _ _ _ _
      have hp2 := hO2.cells_of hp1 hnp
      have HP2 := hide hp2
      have HNP := hide hnp
      obtain ⟨_, _, _, _, _, m5, _⟩ := nodeCells hp2
      have HF2 := hide hF2
      have hBW2 := below_only (HBr.out.trans (hb1.mono (by rw [← HFB.out]; exact HBr.out.size))) hO2 (by simp) (by have := lt_of_heap hF1; omega)
      have HB2 := hide hBW2
      have hlast : Hid (Cuts (fun x => (a.starts 0)[x]?) i sx kids cs) := Hcs
      clear hp1 hb1 hF1 hF2 hO2 hp2 hBW2 hnp hfi HF
      by_cases h2 : op = 2
      · subst h2
        have hnm := k8 rfl
        have hv := k7 (by decide)
        simp only [v0, Prod.mk.injEq] at hv
        obtain ⟨rfl, rfl, rfl⟩ := hv
        have hne : ¬ nm = [] := fun e => by rw [e] at hnm; cases hnm
        have hne1 : (nm == []) = false := by simpa using hne
        have Hnam := hide (name06_any nm W1 hnm)
        clear k7 k8 k9 hnm
        go_wp2_with fail
        (with_reducible refine (Hkd.out _).mono ?_)
        rintro e V2 ⟨rfl, hVV⟩
        have hVV' := hVV.symm
        subst hVV'
        clear hVV
        go_wp2_with fail
        (with_reducible refine Hnam.out.mono ?_)
        rintro e V2 ⟨rfl, hVV⟩
        have hVV' := hVV.symm
        subst hVV'
        clear hVV hne hne1 Hnam
        go_wp2_with fail
        go_loopw [11] (fun v11 wx => ∃ m : Nat, m ≤ kids.length ∧ v11 = .int .i64 ((m : Int) - 1) ∧ Hid (∃ c, cs[m]? = some c ∧ NumsAt wx fb ((firsts a i).set i c) ∧ Only [fb] W2 wx)) (fun v11 _ => (intOf v11 + 1).toNat)
        case atStart => exact ⟨kids.length, Nat.le_refl _, rfl, i, Hcs.out.last, HF2.out, Only.refl _ _⟩
        case round =>
          obtain ⟨m, hm, rfl, hq2⟩ := hrel
          obtain ⟨c, hc1, hc2, hc3⟩ := hq2.out
          have hilx : i < (firsts a i).length := by rw [firsts_len a hi]; exact hil
          have hcell := hc2.cell (i := i) (x := c) (by rw [List.getElem?_set_self hilx])
          have hp3 := hc3.cells_of HP2.out HNP.out
          obtain ⟨_, _, _, _, _, r5, _⟩ := nodeCells hp3
          have hBx : Below fb (V1.alloc (.cells #[.int .i64 0, .int .i64 0] 26)) wr := below_only HB2.out hc3 (by simp) (by have := lt_of_heap HF2.out; omega)
          have hBx' := HFB.out ▸ hBx
          by_cases hm0 : m = 0
          · subst hm0
            have hcs0 : c = sx := by
              have := Hcs.out.first
              rw [hc1] at this
              injection this
            subst hcs0
            rw [firsts_next a hil Hsx.out] at hc2
            have HN : Hid (NumsAt wr fb (firsts a (i + 1)) ∧ Below fb (V1.alloc (.cells #[.int .i64 0, .int .i64 0] 26)) wr) := hide ⟨hc2, hBx⟩
            clear hq2 hc1 hc2 hc3 hcell hp3 hBx hBx' r5
            go_wp2_with fail
            go_roundw
            case rel => exact ⟨i + 1, by omega, by go_num, HN⟩
            case measure => simp [intOf]; omega
          · obtain ⟨k, rfl⟩ : ∃ k, m = k + 1 := ⟨m - 1, by omega⟩
            have hkl2 : k < kids.length := by omega
            obtain ⟨hk1, hk2⟩ := Hcs.out.kid k kids[k] c (List.getElem?_eq_getElem hkl2) hc1
            have hxi := Hcs.out.lt k kids[k] (List.getElem?_eq_getElem hkl2)
            have hkc2 : k < cs.length := by rw [Hcs.out.len]; omega
            have hrise := Hcs.out.rise k cs[k] c (List.getElem?_eq_getElem hkc2) hc1
            obtain ⟨bk, ok, ek, hkcell⟩ := Hkc.out k kids[k] (List.getElem?_eq_getElem hkl2)
            have hkcell := bcell hBx' hkcell
            obtain ⟨x, hx⟩ : ∃ x, kids[k] = x := ⟨_, rfl⟩
            rw [hx] at hk1 hk2 hxi hkcell
            obtain ⟨y, hy⟩ : ∃ y, cs[k] = y := ⟨_, rfl⟩
            rw [List.getElem?_eq_getElem hkc2, hy] at hk2
            rw [hy] at hrise
            have hcx := hc2.cell (i := x) (x := y) (by rw [List.getElem?_set_ne (by omega), firsts_get a hxi]; exact hk2)
            have hfz := hc2.frozen i
            have hset := hc2.set i y
            rw [List.set_set] at hset
            have hy2 : cs[k]? = some y := by rw [List.getElem?_eq_getElem hkc2, hy]
            have HN := fun nq => hide (show ∃ c, cs[k]? = some c ∧ NumsAt ((wr.drewN nq).setCell ⟨fb, i, none⟩ (.int .i64 (y : Int))) fb ((firsts a i).set i c) ∧ Only [fb] W2 ((wr.drewN nq).setCell ⟨fb, i, none⟩ (.int .i64 (y : Int))) from ⟨y, hy2, hset, (hc3.drewN nq).setCell (.inl (by simp)) _⟩)
            subst ek
            subst hk1
            have e1 : decide (((x + 1 : Nat) : Int) < 1) = false := decide_eq_false (by omega)
            have e8 : decide ((x : Int) + 1 < 1) = false := decide_eq_false (by omega)
            have e9 : ((x : Int) != (x : Int)) = false := by simp
            rw [Int.natCast_succ] at hcell
            have e10 : (x : Int) ≤ 60 := by omega
            have e3 : (0 : Int) ≤ (k : Int) := by omega
            have e4 : (k : Int) < (kids.length : Int) := by omega
            have e5 : (0 : Int) ≤ (x : Int) := by omega
            have e6 : (x : Int) < (a.size : Int) := by omega
            clear hq2 hc1 hc2 hc3 hp3 hBx hBx' hset hx hy hk2 hy2
            go_wp2_with fail
            go_quiet (fail)
            go_wp2_with fail
            refine ⟨⟨k, by omega, rfl, HN _⟩, ?_⟩
            simp [intOf]
      · have hnm := k9 h2
        subst hnm
        have g2 : (op == 2) = false := by simpa using h2
        by_cases h1 : op = 1
        · subst h1
          clear k7 k8 k9 h2
          go_wp2_with fail
          (with_reducible refine (Hkd.out _).mono ?_)
          rintro e V2 ⟨rfl, hVV⟩
          have hVV' := hVV.symm
          subst hVV'
          clear hVV
          go_wp2_with fail
          go_loopw [11] (fun v11 wx => ∃ m : Nat, m ≤ kids.length ∧ v11 = .int .i64 ((m : Int) - 1) ∧ Hid (∃ c, cs[m]? = some c ∧ NumsAt wx fb ((firsts a i).set i c) ∧ Only [fb] W2 wx)) (fun v11 _ => (intOf v11 + 1).toNat)
          case atStart => exact ⟨kids.length, Nat.le_refl _, rfl, i, Hcs.out.last, HF2.out, Only.refl _ _⟩
          case round =>
            obtain ⟨m, hm, rfl, hq2⟩ := hrel
            obtain ⟨c, hc1, hc2, hc3⟩ := hq2.out
            have hilx : i < (firsts a i).length := by rw [firsts_len a hi]; exact hil
            have hcell := hc2.cell (i := i) (x := c) (by rw [List.getElem?_set_self hilx])
            have hp3 := hc3.cells_of HP2.out HNP.out
            obtain ⟨_, _, _, _, _, r5, _⟩ := nodeCells hp3
            have hBx : Below fb (V1.alloc (.cells #[.int .i64 0, .int .i64 0] 26)) wr := below_only HB2.out hc3 (by simp) (by have := lt_of_heap HF2.out; omega)
            have hBx' := HFB.out ▸ hBx
            by_cases hm0 : m = 0
            · subst hm0
              have hcs0 : c = sx := by
                have := Hcs.out.first
                rw [hc1] at this
                injection this
              subst hcs0
              rw [firsts_next a hil Hsx.out] at hc2
              have HN : Hid (NumsAt wr fb (firsts a (i + 1)) ∧ Below fb (V1.alloc (.cells #[.int .i64 0, .int .i64 0] 26)) wr) := hide ⟨hc2, hBx⟩
              clear hq2 hc1 hc2 hc3 hcell hp3 hBx hBx' r5
              go_wp2_with fail
              go_roundw
              case rel => exact ⟨i + 1, by omega, by go_num, HN⟩
              case measure => simp [intOf]; omega
            · obtain ⟨k, rfl⟩ : ∃ k, m = k + 1 := ⟨m - 1, by omega⟩
              have hkl2 : k < kids.length := by omega
              obtain ⟨hk1, hk2⟩ := Hcs.out.kid k kids[k] c (List.getElem?_eq_getElem hkl2) hc1
              have hxi := Hcs.out.lt k kids[k] (List.getElem?_eq_getElem hkl2)
              have hkc2 : k < cs.length := by rw [Hcs.out.len]; omega
              have hrise := Hcs.out.rise k cs[k] c (List.getElem?_eq_getElem hkc2) hc1
              obtain ⟨bk, ok, ek, hkcell⟩ := Hkc.out k kids[k] (List.getElem?_eq_getElem hkl2)
              have hkcell := bcell hBx' hkcell
              obtain ⟨x, hx⟩ : ∃ x, kids[k] = x := ⟨_, rfl⟩
              rw [hx] at hk1 hk2 hxi hkcell
              obtain ⟨y, hy⟩ : ∃ y, cs[k] = y := ⟨_, rfl⟩
              rw [List.getElem?_eq_getElem hkc2, hy] at hk2
              rw [hy] at hrise
              have hcx := hc2.cell (i := x) (x := y) (by rw [List.getElem?_set_ne (by omega), firsts_get a hxi]; exact hk2)
              have hfz := hc2.frozen i
              have hset := hc2.set i y
              rw [List.set_set] at hset
              have hy2 : cs[k]? = some y := by rw [List.getElem?_eq_getElem hkc2, hy]
              have HN := fun nq => hide (show ∃ c, cs[k]? = some c ∧ NumsAt ((wr.drewN nq).setCell ⟨fb, i, none⟩ (.int .i64 (y : Int))) fb ((firsts a i).set i c) ∧ Only [fb] W2 ((wr.drewN nq).setCell ⟨fb, i, none⟩ (.int .i64 (y : Int))) from ⟨y, hy2, hset, (hc3.drewN nq).setCell (.inl (by simp)) _⟩)
              subst ek
              subst hk1
              have e1 : decide (((x + 1 : Nat) : Int) < 1) = false := decide_eq_false (by omega)
              have e8 : decide ((x : Int) + 1 < 1) = false := decide_eq_false (by omega)
              have e9 : ((x : Int) != (x : Int)) = false := by simp
              rw [Int.natCast_succ] at hcell
              have e10 : (x : Int) ≤ 60 := by omega
              have e3 : (0 : Int) ≤ (k : Int) := by omega
              have e4 : (k : Int) < (kids.length : Int) := by omega
              have e5 : (0 : Int) ≤ (x : Int) := by omega
              have e6 : (x : Int) < (a.size : Int) := by omega
              clear hq2 hc1 hc2 hc3 hp3 hBx hBx' hset hx hy hk2 hy2
              go_wp2_with fail
              go_quiet (fail)
              go_wp2_with fail
              refine ⟨⟨k, by omega, rfl, HN _⟩, ?_⟩
              simp [intOf]
        · have hv := k7 h1
          simp only [v0, Prod.mk.injEq] at hv
          obtain ⟨rfl, rfl, rfl⟩ := hv
          have g1 : (op != 1) = true := by simpa using h1
          have g3 : (op == 1) = false := by simpa using h1
          clear k7 k8 k9 h2 h1
          go_wp2_with fail
          (with_reducible refine (Hkd.out _).mono ?_)
          rintro e V2 ⟨rfl, hVV⟩
          have hVV' := hVV.symm
          subst hVV'
          clear hVV
          go_wp2_with fail
          go_loopw [11] (fun v11 wx => ∃ m : Nat, m ≤ kids.length ∧ v11 = .int .i64 ((m : Int) - 1) ∧ Hid (∃ c, cs[m]? = some c ∧ NumsAt wx fb ((firsts a i).set i c) ∧ Only [fb] W2 wx)) (fun v11 _ => (intOf v11 + 1).toNat)
          case atStart => exact ⟨kids.length, Nat.le_refl _, rfl, i, Hcs.out.last, HF2.out, Only.refl _ _⟩
          case round =>
            obtain ⟨m, hm, rfl, hq2⟩ := hrel
            obtain ⟨c, hc1, hc2, hc3⟩ := hq2.out
            have hilx : i < (firsts a i).length := by rw [firsts_len a hi]; exact hil
            have hcell := hc2.cell (i := i) (x := c) (by rw [List.getElem?_set_self hilx])
            have hp3 := hc3.cells_of HP2.out HNP.out
            obtain ⟨_, _, _, _, _, r5, _⟩ := nodeCells hp3
            have hBx : Below fb (V1.alloc (.cells #[.int .i64 0, .int .i64 0] 26)) wr := below_only HB2.out hc3 (by simp) (by have := lt_of_heap HF2.out; omega)
            have hBx' := HFB.out ▸ hBx
            by_cases hm0 : m = 0
            · subst hm0
              have hcs0 : c = sx := by
                have := Hcs.out.first
                rw [hc1] at this
                injection this
              subst hcs0
              rw [firsts_next a hil Hsx.out] at hc2
              have HN : Hid (NumsAt wr fb (firsts a (i + 1)) ∧ Below fb (V1.alloc (.cells #[.int .i64 0, .int .i64 0] 26)) wr) := hide ⟨hc2, hBx⟩
              clear hq2 hc1 hc2 hc3 hcell hp3 hBx hBx' r5
              go_wp2_with fail
              go_roundw
              case rel => exact ⟨i + 1, by omega, by go_num, HN⟩
              case measure => simp [intOf]; omega
            · obtain ⟨k, rfl⟩ : ∃ k, m = k + 1 := ⟨m - 1, by omega⟩
              have hkl2 : k < kids.length := by omega
              obtain ⟨hk1, hk2⟩ := Hcs.out.kid k kids[k] c (List.getElem?_eq_getElem hkl2) hc1
              have hxi := Hcs.out.lt k kids[k] (List.getElem?_eq_getElem hkl2)
              have hkc2 : k < cs.length := by rw [Hcs.out.len]; omega
              have hrise := Hcs.out.rise k cs[k] c (List.getElem?_eq_getElem hkc2) hc1
              obtain ⟨bk, ok, ek, hkcell⟩ := Hkc.out k kids[k] (List.getElem?_eq_getElem hkl2)
              have hkcell := bcell hBx' hkcell
              obtain ⟨x, hx⟩ : ∃ x, kids[k] = x := ⟨_, rfl⟩
              rw [hx] at hk1 hk2 hxi hkcell
              obtain ⟨y, hy⟩ : ∃ y, cs[k] = y := ⟨_, rfl⟩
              rw [List.getElem?_eq_getElem hkc2, hy] at hk2
              rw [hy] at hrise
              have hcx := hc2.cell (i := x) (x := y) (by rw [List.getElem?_set_ne (by omega), firsts_get a hxi]; exact hk2)
              have hfz := hc2.frozen i
              have hset := hc2.set i y
              rw [List.set_set] at hset
              have hy2 : cs[k]? = some y := by rw [List.getElem?_eq_getElem hkc2, hy]
              have HN := fun nq => hide (show ∃ c, cs[k]? = some c ∧ NumsAt ((wr.drewN nq).setCell ⟨fb, i, none⟩ (.int .i64 (y : Int))) fb ((firsts a i).set i c) ∧ Only [fb] W2 ((wr.drewN nq).setCell ⟨fb, i, none⟩ (.int .i64 (y : Int))) from ⟨y, hy2, hset, (hc3.drewN nq).setCell (.inl (by simp)) _⟩)
              subst ek
              subst hk1
              have e1 : decide (((x + 1 : Nat) : Int) < 1) = false := decide_eq_false (by omega)
              have e8 : decide ((x : Int) + 1 < 1) = false := decide_eq_false (by omega)
              have e9 : ((x : Int) != (x : Int)) = false := by simp
              rw [Int.natCast_succ] at hcell
              have e10 : (x : Int) ≤ 60 := by omega
              have e3 : (0 : Int) ≤ (k : Int) := by omega
              have e4 : (k : Int) < (kids.length : Int) := by omega
              have e5 : (0 : Int) ≤ (x : Int) := by omega
              have e6 : (x : Int) < (a.size : Int) := by omega
              clear hq2 hc1 hc2 hc3 hp3 hBx hBx' hset hx hy hk2 hy2
              go_wp2_with fail
              go_quiet (fail)
              go_wp2_with fail
              refine ⟨⟨k, by omega, rfl, HN _⟩, ?_⟩
              simp [intOf]
    · obtain rfl : i = a.size := by omega
      have hlast : (firsts a a.size)[a.size - 1]? = some 0 := by rw [firsts_get a (by omega), Ex.starts_last]
      have hcl := hF.cell hlast
      have hcl2 : wo.cell? ⟨fb, ((a.size : Int) - 1).toNat, none⟩ = some (.int .i64 0) := by rw [show ((a.size : Int) - 1).toNat = a.size - 1 by omega]; exact hcl
      have j4 : (0 : Int) ≤ (a.size : Int) - 1 := by omega
      have hBw := HB.out.trans (hBr.mono (by rw [← HFB.out]; exact HB.out.size))
      have Hkn := hide (known07 wo (HR.out.below hBw))
      have HBw := hide hBw
      have j2 : decide ((0 : Int) < (a.size : Int)) = true := by simp; omega
      have j3 : (0 : Int) < (a.size : Int) := by omega
      clear hq hF hBr hlast hBw HS hmk
      go_wp2_with fail
      (with_reducible refine Hkn.out.mono ?_)
      rintro e V9 ⟨rfl, hb9⟩
      have HB9 := hide (HBw.out.trans (hb9.mono HBw.out.size))
      clear hb9 Hkn
      go_wp2_with fail
      go_ret
      exact ⟨rfl, HB9.out⟩
theorem shapes_walk (s : ByteArray) (w : World) (hR : Rd w) : Calls Tryz.prog 3 #[.string s] w fun e w' => e = .returned (.bool true) ∧ Below w.heap.size w w' := by
  by_cases hs : s.size ≤ 500
  · cases h : readL (dl s) with
    | ok a => exact shapes_ok s w hR hs h
    | error p =>
      obtain ⟨⟨x, y⟩, q⟩ := p
      have hq := readL_err h
      have hq1 : (q != 0) = true := by simpa using hq
      have L1 := hide (rnone w (by omega) hR h)
      have HR := hide hR
      have i1 : decide ((500 : Int) < (s.size : Int)) = false := by simp; omega
      clear hR h hq
      go_enter Tryz.func3, Tryz.ntmps3
      go_wp2_with fail
      (with_reducible refine L1.out.mono ?_)
      rintro e V1 ⟨rfl, hb1⟩
      have hb2 : Below w.heap.size w (V1.alloc (.cells #[.int .i64 x, .int .i64 y] 26)) := hb1.alloc hb1.size _
      have Hkn := hide (known07 _ (HR.out.below hb2))
      have HB := hide hb2
      clear hb1 hb2 L1
      go_wp2_with fail
      (with_reducible refine Hkn.out.mono ?_)
      rintro e V9 ⟨rfl, hb9⟩
      have HB9 := hide (HB.out.trans (hb9.mono HB.out.size))
      clear hb9 Hkn
      go_wp2_with fail
      go_ret
      exact ⟨rfl, HB9.out⟩
  · have i1 : decide ((500 : Int) < (s.size : Int)) = true := by simp; omega
    have Hkn := hide (known07 w hR)
    clear hR hs
    go_enter Tryz.func3, Tryz.ntmps3
    go_wp2_with fail
    (with_reducible refine Hkn.out.mono ?_)
    rintro e V9 ⟨rfl, hb9⟩
    have HB9 := hide hb9
    clear hb9 Hkn
    go_wp2_with fail
    go_ret
    exact ⟨rfl, HB9.out⟩
end Go.Proofs.YtkjndabbkfbkaaaGreatDoor
