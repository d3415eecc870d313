/- witanlaw07.kids, witanref06.Name; what all nodes of what is read are. -/
import Derived.Test.YtkjndabbkfbkaaaGreatDoorExR
namespace Go.Proofs.YtkjndabbkfbkaaaGreatDoor
open Go Go.RowKit Go.Lib Go.Sort Go.Shelf

/-- How few, and how many, expressions a node of an op has. -/
def kidsL (op : Int) : Nat × Nat := if (4 ≤ op ∧ op ≤ 5) ∨ (7 ≤ op ∧ op ≤ 16) ∨ op = 21 ∨ op = 24 ∨ op = 25 then (2, 2) else if op = 6 ∨ op = 17 ∨ op = 18 ∨ op = 22 ∨ op = 23 then (1, 1)
  else if op = 19 ∨ op = 20 then (1, 8) else if op = 26 then (3, 3) else (0, 0)
set_option maxRecDepth 100000 in
set_option maxHeartbeats 4000000 in
theorem kids_any (op : Int) (h1 : 1 ≤ op) (h2 : op ≤ 26) (w : World) : Calls Tryz.prog 13 #[.int .u8 op] w fun e w' => e = .returned (.tuple #[.int .i64 ((kidsL op).1 : Int), .int .i64 ((kidsL op).2 : Int)]) ∧ w' = w := by
  obtain rfl | rfl | rfl | rfl | rfl | rfl | rfl | rfl | rfl | rfl | rfl | rfl | rfl | rfl | rfl | rfl | rfl | rfl | rfl | rfl | rfl | rfl | rfl | rfl | rfl | rfl : op = 1 ∨ op = 2 ∨ op = 3 ∨ op = 4 ∨ op = 5 ∨ op = 6 ∨ op = 7 ∨ op = 8 ∨ op = 9 ∨ op = 10 ∨ op = 11 ∨ op = 12 ∨ op = 13 ∨ op = 14 ∨ op = 15 ∨ op = 16 ∨ op = 17 ∨ op = 18 ∨ op = 19 ∨ op = 20 ∨ op = 21 ∨ op = 22 ∨ op = 23 ∨ op = 24 ∨ op = 25 ∨ op = 26 := by omega
  all_goals
    clear h1 h2
    go_enter Tryz.func13, Tryz.ntmps13
    go_wp2_with fail
    first
      | exact bodyPost_ret (v := .tuple #[.int .i64 0, .int .i64 0]) (by simp [results, Tryz.results13, go_sem]; done) rfl ⟨rfl, rfl⟩
      | exact bodyPost_ret (v := .tuple #[.int .i64 2, .int .i64 2]) (by simp [results, Tryz.results13, go_sem]; done) rfl ⟨rfl, rfl⟩
      | exact bodyPost_ret (v := .tuple #[.int .i64 1, .int .i64 1]) (by simp [results, Tryz.results13, go_sem]; done) rfl ⟨rfl, rfl⟩
      | exact bodyPost_ret (v := .tuple #[.int .i64 1, .int .i64 8]) (by simp [results, Tryz.results13, go_sem]; done) rfl ⟨rfl, rfl⟩
      | exact bodyPost_ret (v := .tuple #[.int .i64 3, .int .i64 3]) (by simp [results, Tryz.results13, go_sem]; done) rfl ⟨rfl, rfl⟩
theorem small06_any (c : UInt8) (w : World) : Calls Tryz.prog 47 #[.int .u8 (c.toNat : Int)] w fun e w' => e = .returned (.bool (lowC c)) ∧ w = w' := by
  rw [lowC_dec]
  obtain ⟨p, hp⟩ : ∃ p, decide (97 ≤ (c.toNat : Int)) = p := ⟨_, rfl⟩
  obtain ⟨q, hq⟩ : ∃ q, decide ((c.toNat : Int) ≤ 122) = q := ⟨_, rfl⟩
  cases p <;> cases q
  all_goals
    go_enter Tryz.func47, Tryz.ntmps47
    go_wp2
    go_ret
    exact ⟨by simp [hp, hq], rfl⟩
theorem digit06_any (c : UInt8) (w : World) : Calls Tryz.prog 48 #[.int .u8 (c.toNat : Int)] w fun e w' => e = .returned (.bool (digC c)) ∧ w = w' := by
  rw [digC_dec]
  obtain ⟨p, hp⟩ : ∃ p, decide (48 ≤ (c.toNat : Int)) = p := ⟨_, rfl⟩
  obtain ⟨q, hq⟩ : ∃ q, decide ((c.toNat : Int) ≤ 57) = q := ⟨_, rfl⟩
  cases p <;> cases q
  all_goals
    go_enter Tryz.func48, Tryz.ntmps48
    go_wp2
    go_ret
    exact ⟨by simp [hp, hq], rfl⟩
set_option maxRecDepth 100000 in
set_option maxHeartbeats 4000000 in
theorem run06_any (s : ByteArray) (w : World) (hsz : s.size ≤ 12) (h0 : 0 < s.size) (hl : lowC s[0] = true) (hn : ∀ i (h : i < s.size), namC s[i] = true) : Calls Tryz.prog 31 #[.string s, .int .i64 0] w fun e w' => e = .returned (.int .i64 (s.size : Int)) ∧ w' = w := by
  have hs0 := small06_any s[0] w
  rw [hl] at hs0
  have HS0 := hide hs0
  have HN := hide hn
  have i0 : (0 : Int) < (s.size : Int) := by omega
  have i1 : decide ((s.size : Int) ≤ 0) = false := decide_eq_false (by omega)
  have i2 : ¬ s = ByteArray.empty := fun e => by subst e; exact absurd h0 (by decide)
  clear hs0 hn hl
  go_enter Tryz.func31, Tryz.ntmps31
  go_wp2_with fail
  (with_reducible refine HS0.out.mono ?_)
  rintro e V ⟨rfl, rfl⟩
  go_wp2_with fail
  go_loopw [1] (fun v1 wr => ∃ j : Nat, j ≤ s.size ∧ v1 = .int .i64 j ∧ wr = w) (fun v1 _ => s.size - (intOf v1).toNat)
  case atStart => exact ⟨0, Nat.zero_le _, rfl, rfl⟩
  case round =>
    obtain ⟨j, hj, rfl, rfl⟩ := hrel
    by_cases hjl : j < s.size
    · have hnj := HN.out j hjl
      have k0 : (0 : Int) ≤ (j : Int) := by omega
      have k1 : (j : Int) < (s.size : Int) := by omega
      have k2 : decide ((j : Int) < (s.size : Int)) = true := by simp; omega
      have hs1 := small06_any s[j] wr
      have hd1 := digit06_any s[j] wr
      unfold namC at hnj
      obtain ⟨b1, hb1⟩ : ∃ b, lowC s[j] = b := ⟨_, rfl⟩
      rw [hb1] at hs1 hnj
      have Hs1 := hide hs1
      have Hd1 := hide hd1
      have Hnj := hide hnj
      clear hs1 hd1 hb1 hnj
      go_wp2_with fail
      (with_reducible refine Hs1.out.mono ?_)
      rintro e V ⟨rfl, rfl⟩
      cases b1 with
      | true =>
        clear Hd1 Hnj
        go_wp2_with fail
        go_roundw
        case rel => exact ⟨j + 1, by omega, by go_num, trivial⟩
        case measure => simp [intOf]; omega
      | false =>
        have hd2 : digC s[j] = true := by simpa using Hnj.out
        have hd1 := Hd1.out
        rw [hd2] at hd1
        have Hd2 := hide hd1
        clear Hd1 hd1 hd2 Hnj
        go_wp2_with fail
        (with_reducible refine Hd2.out.mono ?_)
        rintro e V ⟨rfl, rfl⟩
        go_wp2_with fail
        go_roundw
        case rel => exact ⟨j + 1, by omega, by go_num, trivial⟩
        case measure => simp [intOf]; omega
    · obtain rfl : j = s.size := by omega
      have k2 : decide ((s.size : Int) < (s.size : Int)) = false := by simp
      go_wp2_with fail
      go_ret
      exact ⟨rfl, rfl⟩
theorem name06_any (t : List UInt8) (w : World) (h : nameL t = true) : Calls Tryz.prog 14 #[.string ⟨t.toArray⟩] w fun e w' => e = .returned (.bool true) ∧ w' = w := by
  cases t with
  | nil => cases h
  | cons c r =>
    have h' : (decide (r.length < 12) && lowC c && r.all fun b => lowC b || digC b) = true := h
    simp only [Bool.and_eq_true, decide_eq_true_eq, List.all_eq_true] at h'
    obtain ⟨⟨h1, h2⟩, h3⟩ := h'
    obtain ⟨s, hs⟩ : ∃ s : ByteArray, ⟨(c :: r).toArray⟩ = s := ⟨_, rfl⟩
    have hd : dl s = c :: r := by rw [← hs]
    have hz : s.size = r.length + 1 := by rw [← dl_size, hd, List.length_cons]
    have hg : ∀ i (hi : i < s.size), (c :: r)[i]? = some s[i] := fun i hi => by rw [← hd]; exact dl_get hi
    rw [hs]
    have hr := run06_any s w (by omega) (by omega) (by
      have := hg 0 (by omega)
      simp only [List.getElem?_cons_zero, Option.some.injEq] at this
      rw [← this]
      exact h2) (fun i hi => by
      have := hg i hi
      cases i with
      | zero =>
        simp only [List.getElem?_cons_zero, Option.some.injEq] at this
        rw [← this]
        unfold namC
        rw [h2]
        rfl
      | succ i =>
        rw [List.getElem?_cons_succ] at this
        exact h3 _ (List.mem_of_getElem? this))
    have HR := hide hr
    have i0 : (0 : Int) < (s.size : Int) := by omega
    have i1 : (s.size : Int) ≤ 12 := by omega
    have i2 : decide ((s.size : Int) ≤ 12) = true := by simp; omega
    have i3 : decide ((0 : Int) < (s.size : Int)) = true := by simp; omega
    clear hr hg hs hd hz h h1 h2 h3
    go_enter Tryz.func14, Tryz.ntmps14
    go_wp2_with fail
    (with_reducible refine HR.out.mono ?_)
    rintro e V ⟨rfl, rfl⟩
    go_wp2_with fail
    go_ret
    exact ⟨rfl, rfl⟩
/-- What a node of what is read is. -/
structure NodeOk (h : Hd) (k : Nat) : Prop where
  few : (kidsL h.op).1 ≤ k
  many : k ≤ (kidsL h.op).2
  op1 : 1 ≤ h.op
  op2 : h.op ≤ 26
  line : 1 ≤ h.line
  col : 1 ≤ h.col
  v : h.op ≠ 1 → h.v = v0
  name : h.op = 2 → nameL h.name = true
  anon : h.op ≠ 2 → h.name = []
theorem nodeOk_mk {h : Hd} {k : Nat} (o : Int) (ho : h.op = o) (hk : (kidsL o).1 ≤ k ∧ k ≤ (kidsL o).2 ∧ 1 ≤ o ∧ o ≤ 26) (hl : 1 ≤ h.line) (hc : 1 ≤ h.col) (hv : o ≠ 1 → h.v = v0) (hn : o = 2 → nameL h.name = true) (ha : o ≠ 2 → h.name = []) : NodeOk h k := by
  subst ho
  exact ⟨hk.1, hk.2.1, hk.2.2.1, hk.2.2.2, hl, hc, hv, hn, ha⟩
theorem infix_in {r : List Tkn} : ∀ {l : List (List UInt8 × Int)}, infixH r l ≠ 0 → infixH r l ∈ l.map Prod.snd
  | [], h => absurd rfl h
  | (s, o) :: l, h => by
    unfold infixH at h ⊢
    by_cases e : isH s r = true
    · rw [if_pos e]
      exact List.mem_cons_self
    · rw [if_neg e] at h ⊢
      exact List.mem_cons_of_mem _ (infix_in h)
theorem opsL_range (n : Nat) : ∀ o ∈ (opsL n).map Prod.snd, (4 ≤ o ∧ o ≤ 5) ∨ (7 ≤ o ∧ o ≤ 16) := by
  unfold opsL
  repeat' split
  all_goals first | decide | (intro o ho; cases ho)
theorem read_nodes {l : List UInt8} {ts : List Tkn} (h : lexL l = .ok ts) {a : Ex} {q : List Tkn} (hx : lvlE 0 0 ts = .ok (a, q)) : a.All NodeOk := by
  refine exE_all (P := NodeOk) (W := fun t => Form t.w ∧ 1 ≤ t.line ∧ 1 ≤ t.col) ?_ ?_ ?_ ?_ (.lvl 0) 0 ts (by show 0 ≤ 7; omega) trivial (fun t ht => ⟨lex_form h t ht, (lex_places h t ht).1, (lex_places h t ht).2.2.1⟩) a q hx
  · rintro t hd ⟨hf, hl, hc⟩ he
    unfold leafH at he
    by_cases h1 : t.w.k = 4 ∨ t.w.k = 5 ∨ t.w.k = 6
    · rw [if_pos h1] at he
      injection he with he
      subst he
      exact nodeOk_mk 1 rfl (by decide) hl hc (fun e => absurd rfl e) (fun e => absurd e (by decide)) fun _ => rfl
    rw [if_neg h1] at he
    by_cases h2 : t.w.k = 2
    · rw [if_pos h2] at he
      injection he with he
      subst he
      refine nodeOk_mk 2 rfl (by decide) hl hc (fun _ => rfl) (fun _ => ?_) fun e => absurd rfl e
      show nameL t.w.t = true
      cases hf with
      | var _ ht _ => exact ht
      | name h _ _ => omega
      | self h _ _ => omega
      | num h _ _ => omega
      | str h _ _ _ => omega
      | sym h _ _ => omega
      | sign h _ _ => omega
    rw [if_neg h2] at he
    by_cases h3 : t.w.k = 3
    · rw [if_pos h3] at he
      injection he with he
      subst he
      exact nodeOk_mk 3 rfl (by decide) hl hc (fun _ => rfl) (fun e => absurd e (by decide)) fun _ => rfl
    rw [if_neg h3] at he
    by_cases h4 : t.w.k = 1
    · rw [if_pos h4] at he
      cases hcl : callL t.w.t with
      | some c => rw [hcl] at he; cases he
      | none =>
        rw [hcl] at he
        cases hll : litL t.w.t with
        | none => rw [hll] at he; cases he
        | some v =>
          rw [hll] at he
          injection he with he
          subst he
          exact nodeOk_mk 1 rfl (by decide) hl hc (fun e => absurd rfl e) (fun e => absurd e (by decide)) fun _ => rfl
    · rw [if_neg h4] at he
      cases he
  · rintro n t hn ⟨hf, hl, hc⟩
    rcases hn with rfl | rfl
    · exact nodeOk_mk 6 rfl (by decide) hl hc (fun _ => rfl) (fun e => absurd e (by decide)) fun _ => rfl
    · exact nodeOk_mk 17 rfl (by decide) hl hc (fun _ => rfl) (fun e => absurd e (by decide)) fun _ => rfl
  · rintro n t r ⟨hf, hl, hc⟩ hz
    have ho := opsL_range n _ (infix_in hz)
    obtain ⟨o, hoo⟩ : ∃ o, infixH (t :: r) (opsL n) = o := ⟨_, rfl⟩
    rw [hoo] at ho ⊢
    have hk : kidsL o = (2, 2) := by
      unfold kidsL
      rw [if_pos (by omega)]
    refine ⟨?_, ?_, ?_, ?_, hl, hc, fun _ => rfl, fun e => ?_, fun _ => rfl⟩
    · show (kidsL o).1 ≤ 2
      rw [hk]
      decide
    · show 2 ≤ (kidsL o).2
      rw [hk]
      decide
    · show 1 ≤ o
      omega
    · show o ≤ 26
      omega
    · have : o = 2 := e
      omega
  · rintro t c k ⟨hf, hl, hc⟩ he h1 h2
    obtain ⟨_, hcl, hln, hco, _⟩ := callH_le he
    have hk : kidsL c.op = (c.least, c.most) ∧ 18 ≤ c.op ∧ c.op ≤ 26 := by
      unfold callL at hcl
      repeat' split at hcl
      all_goals first | (injection hcl with hcl; injection hcl with e1 e2; injection e2 with e2 e3; rw [← e1, ← e2, ← e3]; decide) | cases hcl
    refine ⟨?_, ?_, ?_, ?_, ?_, ?_, fun _ => rfl, fun e => ?_, fun _ => rfl⟩
    · show (kidsL c.op).1 ≤ k
      rw [hk.1]
      exact h1
    · show k ≤ (kidsL c.op).2
      rw [hk.1]
      exact h2
    · show 1 ≤ c.op
      omega
    · show c.op ≤ 26
      omega
    · show 1 ≤ c.line
      omega
    · show 1 ≤ c.col
      omega
    · have : c.op = 2 := e
      omega
end Go.Proofs.YtkjndabbkfbkaaaGreatDoor
