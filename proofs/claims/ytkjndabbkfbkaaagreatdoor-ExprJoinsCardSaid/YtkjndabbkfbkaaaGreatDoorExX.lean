/- ExprBrackets: the document's Same, the law's walk. -/
import Derived.Test.YtkjndabbkfbkaaaGreatDoorExR
import Derived.Test.YtkjndabbkfbkaaaGreatDoorExQ
import Derived.Test.YtkjndabbkfbkaaaGreatDoorExU
namespace Go.Proofs.YtkjndabbkfbkaaaGreatDoor
open Go Go.RowKit Go.Lib Go.Sort Go.Shelf

theorem samesZ_get : ∀ {l m : List Nz}, samesZ l m = true → l.length = m.length ∧ ∀ (i : Nat) (h1 : i < l.length) (h2 : i < m.length), sameZ l[i] m[i] = true
  | [], [], _ => ⟨rfl, fun i h1 _ => absurd h1 (by simp)⟩
  | [], _ :: _, h => by cases h
  | _ :: _, [], h => by cases h
  | x :: l, y :: m, h => by
    have h' : (sameZ x y && samesZ l m) = true := h
    rw [Bool.and_eq_true] at h'
    obtain ⟨e, ih⟩ := samesZ_get h'.2
    refine ⟨by simp [e], fun i h1 h2 => ?_⟩
    cases i with
    | zero => exact h'.1
    | succ i => exact ih i (by simpa using h1) (by simpa using h2)
theorem Below.drewN' {B : Nat} {a : World} : ∀ (n : Nat) {w : World}, Below B a w → Below B a (w.drewN n)
  | 0, _, h => h
  | n + 1, _, h => (Below.drewN' n h).drew
set_option maxRecDepth 100000 in
set_option maxHeartbeats 4000000 in
theorem rsame_true {v1 v2 : Value} {l m : List Nz} (w : World) (hx : TrZ w v1 l) (hy : TrZ w v2 m) (hlm : samesZ l m = true) : Calls Tryz.prog 16 #[v1, v2, .bool true] w fun e w' => e = .returned (.bool true) ∧ Below w.heap.size w w' := by
  obtain ⟨hn, hg⟩ := samesZ_get hlm
  have hl1 := hx.1
  have HX := hide hx
  have HY := hide hy
  have HG := hide hg
  obtain ⟨_, a, c, rfl, _⟩ := hx
  obtain ⟨_, a', c', rfl, _⟩ := hy
  have HN := hide hn
  rw [← hn]
  clear hn hlm hg
  go_enter Tryz.func16, Tryz.ntmps16
  go_wp2_with fail
  go_loopw [7] (fun vi wr => ∃ j : Nat, j ≤ l.length ∧ vi = .int .i64 j ∧ Hid (Below w.heap.size w wr)) (fun vi _ => l.length - (intOf vi).toNat)
  case atStart => exact ⟨0, Nat.zero_le _, rfl, Below.refl _ _⟩
  case round =>
    obtain ⟨wo, rfl⟩ : ∃ wo : World, wo = wr := ⟨_, rfl⟩
    obtain ⟨j, hj, rfl, hb⟩ := hrel
    by_cases hjl : j < l.length
    · have hjm : j < m.length := by rw [← HN.out]; exact hjl
      have hx2 := HX.out.below hb.out
      have hy2 := HY.out.below hb.out
      obtain ⟨_, ax, cx, ex, hx3⟩ := hx2
      obtain ⟨_, ay, cy, ey, hy3⟩ := hy2
      injection ex with ex1 ex0 ex2
      injection ey with ey1 ey0 ey2
      subst ex1 ex2 ey1 ey2
      clear ex0 ey0
      obtain ⟨bx, ox, kx, rfl, hnx, hix⟩ := hx3 j hjl
      obtain ⟨by', oy, ky, rfl, hny, hiy⟩ := hy3 j hjm
      have hs := HG.out j hjl hjm
      obtain ⟨⟨hd1, k1⟩, e1⟩ : ∃ z, l[j] = z := ⟨_, rfl⟩
      obtain ⟨⟨hd2, k2⟩, e2⟩ : ∃ z, m[j] = z := ⟨_, rfl⟩
      rw [e1] at hnx hix hs
      rw [e2] at hny hiy hs
      simp only at hnx hix hny hiy
      obtain ⟨op1, ⟨vk1, vn1, vs1⟩, nm1, ln1, cl1⟩ := hd1
      obtain ⟨op2, ⟨vk2, vn2, vs2⟩, nm2, ln2, cl2⟩ := hd2
      have hs' := (sameZ_iff _ _).1 hs
      obtain ⟨hs1, rfl⟩ := hs'
      simp only [Hd.bare, Hd.mk.injEq, Prod.mk.injEq] at hs1
      obtain ⟨rfl, ⟨rfl, rfl, rfl⟩, rfl, _, _⟩ := hs1
      obtain ⟨hk1, ak, ck, rfl, hkx⟩ := hix
      obtain ⟨hk2, ak', ck', rfl, hky⟩ := hiy
      obtain ⟨x0, x1, x2, x3, x4, x5, x6, x7⟩ := hnx
      obtain ⟨y0, y1, y2, y3, y4, y5, y6, y7⟩ := hny
      simp only at x0 x1 x2 x3 x4 x5 x6 x7 y0 y1 y2 y3 y4 y5 y6 y7 hkx hky
      have HKX := hide hkx
      have HKY := hide hky
      have hbx : bx < wo.heap.size := lt_of_cell x0
      have hby : by' < wo.heap.size := lt_of_cell y0
      have i1 : (0 : Int) ≤ (j : Int) := by omega
      have i2 : (j : Int) < (l.length : Int) := by omega
      have i3 : decide ((j : Int) < (l.length : Int)) = true := decide_eq_true i2
      have hJ := hide hj
      have hJL := hide hjl
      clear hs hx3 hy3 e1 e2 hkx hky
      go_wp2_with fail
      go_region
      · obtain ⟨W1, hW1⟩ : ∃ W1, wo.alloc (.cells #[.int .u8 op1, .int .u8 vk1, .int .i64 vn1, .string ⟨vs1.toArray⟩, .string ⟨nm1.toArray⟩, .slice ak k1.length ck, .int .i64 ln1, .int .i64 cl1] 34) = W1 := ⟨_, rfl⟩
        obtain ⟨W2, hW2⟩ : ∃ W2, (W1.alloc (.cells #[.int .u8 op1, .int .u8 vk1, .int .i64 vn1, .string ⟨vs1.toArray⟩, .string ⟨nm1.toArray⟩, .slice ak' k1.length ck', .int .i64 ln2, .int .i64 cl2] 34)).drew = W2 := ⟨_, rfl⟩
        have hpa := heap_alloc0 wo (.cells #[.int .u8 op1, .int .u8 vk1, .int .i64 vn1, .string ⟨vs1.toArray⟩, .string ⟨nm1.toArray⟩, .slice ak k1.length ck, .int .i64 ln1, .int .i64 cl1] 34)
        have hsz : W1.heap.size = wo.heap.size + 1 := by rw [← hW1]; simp
        have hbW1 : Below wo.heap.size wo W1 := by rw [← hW1]; exact (Below.refl _ wo).alloc (Nat.le_refl _) _
        have hbW2 : Below W1.heap.size W1 W2 := by rw [← hW2]; exact ((Below.refl _ W1).alloc (Nat.le_refl _) _).drew
        have hpb : W2.heap[wo.heap.size + 1]? = some (.cells #[.int .u8 op1, .int .u8 vk1, .int .i64 vn1, .string ⟨vs1.toArray⟩, .string ⟨nm1.toArray⟩, .slice ak' k1.length ck', .int .i64 ln2, .int .i64 cl2] 34) := by rw [← hW2, ← hsz]; exact heap_alloc0 W1 (.cells #[.int .u8 op1, .int .u8 vk1, .int .i64 vn1, .string ⟨vs1.toArray⟩, .string ⟨nm1.toArray⟩, .slice ak' k1.length ck', .int .i64 ln2, .int .i64 cl2] 34)
        rw [hW1] at hpa
        have hpa2 := (hbW2.block _ (lt_of_heap hpa)).trans hpa
        rw [hW1, hW2]
        obtain ⟨p0, p1, p2, p3, p4, p5, p6, p7, _⟩ := nodeCells hpa2
        obtain ⟨q0, q1, q2, q3, q4, q5, q6, q7, _⟩ := nodeCells hpb
        have HBW := hide (hbW1.trans (hbW2.mono hbW1.size))
        have HPA := hide hpa2
        have HPB := hide hpb
        have HBL := hide (hb.out.trans ((hbW1.trans (hbW2.mono hbW1.size)).mono hb.out.size))
        clear hpa hsz hbW1 hbW2 hpb hpa2 hW1 hW2 x0 x1 x2 x3 x4 x5 x6 x7 y0 y1 y2 y3 y4 y5 y6 y7 hbx hby hb
        go_wp2_with fail
        go_loopw [10] (fun vk wx => ∃ k : Nat, k ≤ k1.length ∧ vk = .int .i64 k ∧ Hid (Below W2.heap.size W2 wx)) (fun vk _ => k1.length - (intOf vk).toNat)
        case atStart => exact ⟨0, Nat.zero_le _, rfl, Below.refl _ _⟩
        case round =>
          obtain ⟨k, hk, rfl, hbk⟩ := hrel
          obtain ⟨_, _, _, _, _, r5, _⟩ := nodeCells ((hbk.out.block _ (lt_of_heap HPA.out)).trans HPA.out)
          obtain ⟨_, _, _, _, _, s5, _⟩ := nodeCells ((hbk.out.block _ (lt_of_heap HPB.out)).trans HPB.out)
          clear p0 p1 p2 p3 p4 p5 p6 p7 q0 q1 q2 q3 q4 q5 q6 q7
          by_cases hkl : k < k1.length
          · obtain ⟨b1, o1, e1, c1⟩ := HKX.out k hkl
            obtain ⟨b2, o2, e2, c2⟩ := HKY.out k hkl
            have c1 := bcell hbk.out (bcell HBW.out c1)
            have c2 := bcell hbk.out (bcell HBW.out c2)
            obtain ⟨kv, hkv⟩ : ∃ kv, k1[k] = kv := ⟨_, rfl⟩
            rw [hkv] at c1 c2
            subst e1 e2
            have l1 : (0 : Int) ≤ (k : Int) := by omega
            have l2 : (k : Int) < (k1.length : Int) := by omega
            have l3 : decide ((k : Int) < (k1.length : Int)) = true := decide_eq_true l2
            have l4 : (kv != kv) = false := by simp
            have HN := fun nq => hide (show Below W2.heap.size W2 (wr.drewN nq) from Below.drewN' nq hbk.out)
            clear hbk hkv
            go_wp2_with fail
            go_quiet (fail)
            go_wp2_with fail
            refine ⟨⟨k + 1, by omega, by go_num, HN _⟩, ?_⟩
            simp [intOf]
            omega
          · obtain rfl : k = k1.length := by omega
            have HB2 := hide (HBL.out.trans (hbk.out.mono HBL.out.size))
            have l3 : decide ((k1.length : Int) < (k1.length : Int)) = false := by simp
            clear hbk hkl
            go_wp2_with fail
            go_roundw
            case rel => exact ⟨j + 1, by omega, by go_num, HB2⟩
            case measure => simp [intOf]; omega
      · obtain ⟨W1, hW1⟩ : ∃ W1, wo.alloc (.cells #[.int .u8 op1, .int .u8 vk1, .int .i64 vn1, .string ⟨vs1.toArray⟩, .string ⟨nm1.toArray⟩, .slice ak' k1.length ck', .int .i64 ln2, .int .i64 cl2] 34) = W1 := ⟨_, rfl⟩
        obtain ⟨W2, hW2⟩ : ∃ W2, (W1.alloc (.cells #[.int .u8 op1, .int .u8 vk1, .int .i64 vn1, .string ⟨vs1.toArray⟩, .string ⟨nm1.toArray⟩, .slice ak k1.length ck, .int .i64 ln1, .int .i64 cl1] 34)).drew = W2 := ⟨_, rfl⟩
        have hpa := heap_alloc0 wo (.cells #[.int .u8 op1, .int .u8 vk1, .int .i64 vn1, .string ⟨vs1.toArray⟩, .string ⟨nm1.toArray⟩, .slice ak' k1.length ck', .int .i64 ln2, .int .i64 cl2] 34)
        have hsz : W1.heap.size = wo.heap.size + 1 := by rw [← hW1]; simp
        have hbW1 : Below wo.heap.size wo W1 := by rw [← hW1]; exact (Below.refl _ wo).alloc (Nat.le_refl _) _
        have hbW2 : Below W1.heap.size W1 W2 := by rw [← hW2]; exact ((Below.refl _ W1).alloc (Nat.le_refl _) _).drew
        have hpb : W2.heap[wo.heap.size + 1]? = some (.cells #[.int .u8 op1, .int .u8 vk1, .int .i64 vn1, .string ⟨vs1.toArray⟩, .string ⟨nm1.toArray⟩, .slice ak k1.length ck, .int .i64 ln1, .int .i64 cl1] 34) := by rw [← hW2, ← hsz]; exact heap_alloc0 W1 (.cells #[.int .u8 op1, .int .u8 vk1, .int .i64 vn1, .string ⟨vs1.toArray⟩, .string ⟨nm1.toArray⟩, .slice ak k1.length ck, .int .i64 ln1, .int .i64 cl1] 34)
        rw [hW1] at hpa
        have hpa2 := (hbW2.block _ (lt_of_heap hpa)).trans hpa
        rw [hW1, hW2]
        obtain ⟨p0, p1, p2, p3, p4, p5, p6, p7, _⟩ := nodeCells hpb
        obtain ⟨q0, q1, q2, q3, q4, q5, q6, q7, _⟩ := nodeCells hpa2
        have HBW := hide (hbW1.trans (hbW2.mono hbW1.size))
        have HPA := hide hpa2
        have HPB := hide hpb
        have HBL := hide (hb.out.trans ((hbW1.trans (hbW2.mono hbW1.size)).mono hb.out.size))
        clear hpa hsz hbW1 hbW2 hpb hpa2 hW1 hW2 x0 x1 x2 x3 x4 x5 x6 x7 y0 y1 y2 y3 y4 y5 y6 y7 hbx hby hb
        go_wp2_with fail
        go_loopw [10] (fun vk wx => ∃ k : Nat, k ≤ k1.length ∧ vk = .int .i64 k ∧ Hid (Below W2.heap.size W2 wx)) (fun vk _ => k1.length - (intOf vk).toNat)
        case atStart => exact ⟨0, Nat.zero_le _, rfl, Below.refl _ _⟩
        case round =>
          obtain ⟨k, hk, rfl, hbk⟩ := hrel
          obtain ⟨_, _, _, _, _, r5, _⟩ := nodeCells ((hbk.out.block _ (lt_of_heap HPB.out)).trans HPB.out)
          obtain ⟨_, _, _, _, _, s5, _⟩ := nodeCells ((hbk.out.block _ (lt_of_heap HPA.out)).trans HPA.out)
          clear p0 p1 p2 p3 p4 p5 p6 p7 q0 q1 q2 q3 q4 q5 q6 q7
          by_cases hkl : k < k1.length
          · obtain ⟨b1, o1, e1, c1⟩ := HKX.out k hkl
            obtain ⟨b2, o2, e2, c2⟩ := HKY.out k hkl
            have c1 := bcell hbk.out (bcell HBW.out c1)
            have c2 := bcell hbk.out (bcell HBW.out c2)
            obtain ⟨kv, hkv⟩ : ∃ kv, k1[k] = kv := ⟨_, rfl⟩
            rw [hkv] at c1 c2
            subst e1 e2
            have l1 : (0 : Int) ≤ (k : Int) := by omega
            have l2 : (k : Int) < (k1.length : Int) := by omega
            have l3 : decide ((k : Int) < (k1.length : Int)) = true := decide_eq_true l2
            have l4 : (kv != kv) = false := by simp
            have HN := fun nq => hide (show Below W2.heap.size W2 (wr.drewN nq) from Below.drewN' nq hbk.out)
            clear hbk hkv
            go_wp2_with fail
            go_quiet (fail)
            go_wp2_with fail
            refine ⟨⟨k + 1, by omega, by go_num, HN _⟩, ?_⟩
            simp [intOf]
            omega
          · obtain rfl : k = k1.length := by omega
            have HB2 := hide (HBL.out.trans (hbk.out.mono HBL.out.size))
            have l3 : decide ((k1.length : Int) < (k1.length : Int)) = false := by simp
            clear hbk hkl
            go_wp2_with fail
            go_roundw
            case rel => exact ⟨j + 1, by omega, by go_num, HB2⟩
            case measure => simp [intOf]; omega
    · obtain rfl : j = l.length := by omega
      have HB := hide hb.out
      clear hb
      go_wp2_with fail
      go_ret
      exact ⟨rfl, HB.out⟩
end Go.Proofs.YtkjndabbkfbkaaaGreatDoor

/- Expressions in parentheses, in plain words. No program is named. -/
namespace Go.Proofs.YtkjndabbkfbkaaaGreatDoor
open Go Go.Lib

/-- Words hang on no place. -/
theorem LX_words : ∀ (k : Nat) (l : List UInt8) (a b a' b' : Int) (ts : List Tkn), l.length ≤ k → LX l a b = .ok ts → ∃ us, LX l a' b' = .ok us ∧ us.map Tkn.w = ts.map Tkn.w
  | k, l, a, b, a', b', ts, hk, h => by
    refine lex_cases (P := fun l => l.length ≤ k → LX l a b = .ok ts → ∃ us, LX l a' b' = .ok us ∧ us.map Tkn.w = ts.map Tkn.w) l ?_ ?_ ?_ ?_ ?_ ?_ hk h
    · rintro rfl _ h
      rw [LX_nil] at h
      injection h with h
      subst h
      exact ⟨[], LX_nil _ _, rfl⟩
    · rintro r rfl hk h
      obtain ⟨k, rfl⟩ : ∃ j, k = j + 1 := ⟨k - 1, by rw [List.length_cons] at hk; omega⟩
      rw [LX_line] at h ⊢
      exact LX_words k r _ _ _ _ ts (by rw [List.length_cons] at hk; omega) h
    · rintro r rfl hk h
      obtain ⟨k, rfl⟩ : ∃ j, k = j + 1 := ⟨k - 1, by rw [List.length_cons] at hk; omega⟩
      rw [LX_blank] at h ⊢
      exact LX_words k r _ _ _ _ ts (by rw [List.length_cons] at hk; omega) h
    · rintro r rfl hk h
      obtain ⟨k, rfl⟩ : ∃ j, k = j + 1 := ⟨k - 1, by rw [List.length_cons] at hk; omega⟩
      have hp := spanL_pos (q := no10) (c := 59) (r := r) (by decide)
      rw [LX_rem] at h ⊢
      exact LX_words k _ _ _ _ _ ts (by rw [List.length_drop]; omega) h
    · rintro c r e rfl hc hw hk h
      rw [LX_err hc hw] at h
      cases h
    · rintro c r w n rfl hc hw hk h
      obtain ⟨k, rfl⟩ : ∃ j, k = j + 1 := ⟨k - 1, by rw [List.length_cons] at hk; omega⟩
      obtain ⟨hn, hnl⟩ := wordL_len hw
      rw [LX_word hc hw] at h
      cases hx : LX ((c :: r).drop n) a (b + n) with
      | error e => rw [hx] at h; cases h
      | ok vs =>
        rw [hx] at h
        injection h with h
        subst h
        obtain ⟨us, h1, h2⟩ := LX_words k _ a (b + n) a' (b' + n) vs (by rw [List.length_drop]; omega) hx
        refine ⟨⟨w, a', b'⟩ :: us, ?_, by simp [h2]⟩
        rw [LX_word hc hw, h1]
        rfl
/-- A sign of one byte that begins no longer one. -/
theorem word_paren (r : List UInt8) : wordL (40 :: r) = .ok (⟨7, [40], v0⟩, 1) := by
  unfold wordL
  simp only
  rw [if_neg (by decide), if_neg (by decide), if_neg (by decide), if_neg (by decide), if_neg (by rintro ⟨h, _⟩; exact absurd h (by decide))]
  unfold signW
  have h2 : (40 :: r).take 2 ∉ twos := by
    cases r with
    | nil => decide
    | cons c r =>
      simp [twos]
  rw [if_neg h2, if_pos (by rw [List.take_succ_cons, List.take_zero]; decide)]
  rfl
theorem LX_shut (a b : Int) : LX [41] a b = .ok [⟨⟨7, [41], v0⟩, a, b⟩] := rfl
/-- A text in parentheses, with more behind. -/
theorem LX_paren (l r : List UInt8) (a b : Int) : LX (40 :: (l ++ 10 :: r)) a b = consW ⟨⟨7, [40], v0⟩, a, b⟩ (joinE (LX l a (b + 1)) (LX r (a + (l.count 10 : Nat) + 1) 1)) := by
  rw [LX_word ⟨by decide, by decide, by decide⟩ (word_paren _), List.drop_one, List.tail_cons, LX_join r _ l _ _ (Nat.le_refl _)]
  rfl
def openT (t : Tkn) : Prop := t.w = ⟨7, [40], v0⟩
def shutT (t : Tkn) : Prop := t.w = ⟨7, [41], v0⟩
theorem shut_post {t : Tkn} (h : shutT t) (post : List Tkn) : PostOk (t :: post) := fun s hs => by
  unfold shutT at h
  show (decide (t.w.t = s) && (decide (t.w.k = 1) || decide (t.w.k = 7))) = false
  rw [h]
  have : ¬ [41] = s := fun e => hs e.symm
  simp [this]
theorem open_is {t : Tkn} (h : openT t) (r : List Tkn) (s : List UInt8) : isH s (t :: r) = decide (s = [40]) := by
  unfold openT at h
  show (decide (t.w.t = s) && (decide (t.w.k = 1) || decide (t.w.k = 7))) = _
  rw [h]
  by_cases e : s = [40]
  · subst e
    decide
  · have : ¬ [40] = s := fun h => e h.symm
    simp [this, e]
theorem open_infix {t : Tkn} (h : openT t) (r : List Tkn) : ∀ (l : List (List UInt8 × Int)), (∀ x ∈ l, x.1 ≠ [40]) → infixH (t :: r) l = 0
  | [], _ => rfl
  | (s, o) :: l, hl => by
    unfold infixH
    rw [open_is h, if_neg (by simpa using hl (s, o) List.mem_cons_self)]
    exact open_infix h r l fun x hx => hl x (List.mem_cons_of_mem _ hx)
/-- What begins with a parenthesis, at the deepest level. -/
theorem paren_atom {p s : Tkn} (hp : openT p) (hs : shutT s) {ts us post : List Tkn} {a : Ex} (ha : lvlE 0 0 ts = .ok (a, [])) (hu : us.map Tkn.w = ts.map Tkn.w) (d : Nat) :
    (∃ q, lvlE 7 d (p :: (us ++ s :: post)) = .error (12, q)) ∨ ∃ a', lvlE 7 d (p :: (us ++ s :: post)) = .ok (a', post) ∧ a'.bare = a.bare := by
  have hl : leafH p = none := by unfold openT at hp; unfold leafH; rw [hp]; rfl
  have hc : callH p = none := by unfold openT at hp; unfold callH; rw [hp]; rfl
  rw [lvlE_atom]
  simp only [hl, hc]
  unfold openE
  rw [open_is hp, if_pos (by simp)]
  by_cases hd : d = 12
  · rw [if_pos hd]
    exact .inl ⟨_, rfl⟩
  · rw [if_neg hd, List.tail_cons]
    have hx := exE_ctx (d + 1) (s :: post) (shut_post hs post) (.lvl 0) 0 ts (by show 0 ≤ 7; omega) (.lvl 0) us rfl hu a [] ha
    rw [Nat.zero_add] at hx
    rcases hx with ⟨_, q1, e⟩ | ⟨a', q', e, h1, h2⟩
    · show (∃ q, (lvlE 0 (d + 1) (us ++ s :: post)).next shutE = .error (12, q)) ∨ ∃ a', (lvlE 0 (d + 1) (us ++ s :: post)).next shutE = .ok (a', post) ∧ a'.bare = a.bare
      rw [show lvlE 0 (d + 1) (us ++ s :: post) = _ from e]
      exact .inl ⟨_, rfl⟩
    · have : q' = [] := by simpa using h2
      subst this
      show (∃ q, (lvlE 0 (d + 1) (us ++ s :: post)).next shutE = .error (12, q)) ∨ ∃ a', (lvlE 0 (d + 1) (us ++ s :: post)).next shutE = .ok (a', post) ∧ a'.bare = a.bare
      rw [show lvlE 0 (d + 1) (us ++ s :: post) = _ from e]
      refine .inr ⟨a', ?_, h1⟩
      unfold shutT at hs
      have : isH [41] ([] ++ s :: post) = true := by
        show (decide (s.w.t = [41]) && (decide (s.w.k = 1) || decide (s.w.k = 7))) = true
        rw [hs]
        decide
      simp only [ExR.next]
      unfold shutE
      rw [if_pos this]
      rfl
/-- Up the levels, from one down to another, where nothing stands between. -/
theorem up_levels {r : List Tkn} {d : Nat} {a : Ex} {post : List Tkn} (hpre : ∀ n, isH (preW n) r = false) (m : Nat) (hpost : ∀ n, m ≤ n → infixH post (opsL n) = 0) : ∀ (k n : Nat), n + k = 7 → m ≤ n → lvlE 7 d r = .ok (a, post) → lvlE n d r = .ok (a, post)
  | 0, n, hk, _, h => by
    rw [show n = 7 by omega]
    exact h
  | k + 1, n, hk, hm, h => by
    have ih := up_levels hpre m hpost k (n + 1) (by omega) (by omega) h
    by_cases h26 : n = 2 ∨ n = 6
    · rw [lvlE_pre h26, hpre n, if_neg (by decide)]
      exact ih
    · rw [lvlE_row (by omega) (by omega), ih]
      simp only [ExR.next]
      rw [rowE_eq, if_pos (hpost n hm)]
theorem up_error {r : List Tkn} {d : Nat} {p : Int × List Tkn} (hpre : ∀ n, isH (preW n) r = false) : ∀ (k n : Nat), n + k = 7 → lvlE 7 d r = .error p → lvlE n d r = .error p
  | 0, n, hk, h => by
    rw [show n = 7 by omega]
    exact h
  | k + 1, n, hk, h => by
    have ih := up_error hpre k (n + 1) (by omega) h
    by_cases h26 : n = 2 ∨ n = 6
    · rw [lvlE_pre h26, hpre n, if_neg (by decide)]
      exact ih
    · rw [lvlE_row (by omega) (by omega), ih]
      rfl
theorem open_pre {p : Tkn} (hp : openT p) (r : List Tkn) (n : Nat) : isH (preW n) (p :: r) = false := by
  rw [open_is hp]
  unfold preW
  split <;> decide
theorem infix_nil : ∀ (l : List (List UInt8 × Int)), infixH [] l = 0
  | [] => rfl
  | (s, o) :: l => by
    unfold infixH
    rw [if_neg (by simp [isH])]
    exact infix_nil l
/-- A text in parentheses: the same tree but for places, or it is too deep. -/
theorem bracket_read {l : List UInt8} {a : Ex} (h : readL l = .ok a) : (∃ a', readL (40 :: (l ++ [10, 41])) = .ok a' ∧ a'.bare = a.bare) ∨ ∃ p, readL (40 :: (l ++ [10, 41])) = .error (p, 12) := by
  have hh : ∃ ts, lexL l = .ok ts ∧ lvlE 0 0 ts = .ok (a, []) ∧ a.size ≤ 60 := by
    unfold readL at h
    cases hl : lexL l with
    | error e => rw [hl] at h; cases h
    | ok ts =>
      rw [hl] at h
      simp only at h
      cases hx : lvlE 0 0 ts with
      | error e => rw [hx] at h; cases h
      | ok x =>
        obtain ⟨b, q⟩ := x
        rw [hx] at h
        simp only at h
        split at h
        · cases h
        · rename_i h60
          split at h
          · rename_i hq
            injection h with h
            subst h
            subst hq
            exact ⟨ts, rfl, hx, by omega⟩
          · cases h
  obtain ⟨ts, h1, h2, h3⟩ := hh
  obtain ⟨us, h4, h5⟩ := LX_words _ l 1 1 1 2 ts (Nat.le_refl _) h1
  have hlex : lexL (40 :: (l ++ [10, 41])) = .ok (⟨⟨7, [40], v0⟩, 1, 1⟩ :: (us ++ [⟨⟨7, [41], v0⟩, 1 + (l.count 10 : Nat) + 1, 1⟩])) := by
    rw [lexL_LX, show [10, 41] = (10 : UInt8) :: [41] from rfl, LX_paren, LX_shut, show (1 : Int) + 1 = 2 from rfl, h4]
    rfl
  have hat := paren_atom (p := ⟨⟨7, [40], v0⟩, 1, 1⟩) (s := ⟨⟨7, [41], v0⟩, 1 + (l.count 10 : Nat) + 1, 1⟩) (show openT _ from rfl) (show shutT _ from rfl) (post := []) h2 h5 0
  rcases hat with ⟨q, e⟩ | ⟨a', e, hb⟩
  · have := up_error (fun n => open_pre (p := ⟨⟨7, [40], v0⟩, 1, 1⟩) (by unfold openT; rfl) _ n) 7 0 rfl e
    refine .inr ⟨placeE (⟨⟨7, [40], v0⟩, 1, 1⟩ :: (us ++ [⟨⟨7, [41], v0⟩, 1 + (l.count 10 : Nat) + 1, 1⟩])) q, ?_⟩
    simp only [readL, hlex, this]
  · have := up_levels (fun n => open_pre (p := ⟨⟨7, [40], v0⟩, 1, 1⟩) (by unfold openT; rfl) _ n) 0 (fun n _ => infix_nil _) 7 0 rfl (Nat.le_refl _) e
    refine .inl ⟨a', ?_, hb⟩
    have hz := size_bare hb
    simp only [readL, hlex, this]
    rw [if_neg (by omega), if_pos trivial]
end Go.Proofs.YtkjndabbkfbkaaaGreatDoor

/- ExprBrackets: the law's walk. -/
namespace Go.Proofs.YtkjndabbkfbkaaaGreatDoor
open Go Go.RowKit Go.Lib Go.Sort Go.Shelf

/-- How often each number below n stands in a list. -/
def cntL (n : Nat) (l : List Nat) : List Nat := (List.range n).map fun x => l.count x
theorem cntL_len (n : Nat) (l : List Nat) : (cntL n l).length = n := by simp [cntL]
theorem cntL_nil (n : Nat) : cntL n [] = List.replicate n 0 := by
  refine List.ext_getElem (by simp [cntL]) fun i h1 h2 => ?_
  simp [cntL]
theorem cntL_get {n x : Nat} (l : List Nat) (h : x < n) : (cntL n l)[x]? = some (l.count x) := by
  simp [cntL, h]
theorem cntL_next {n k : Nat} (l : List Nat) : (cntL n l).set k (l.count k + 1) = cntL n (l ++ [k]) := by
  refine List.ext_getElem (by simp [cntL]) fun i h1 h2 => ?_
  rw [List.getElem_set]
  by_cases e : k = i
  · subst e
    simp [cntL]
  · rw [if_neg e]
    simp [cntL, List.count_append, List.count_cons, e]
theorem kidsAll_take {l : List Nd} {i : Nat} {n : Nd} (h : l[i]? = some n) : kidsAll (l.take (i + 1)) = kidsAll (l.take i) ++ n.kids := by
  obtain ⟨h1, rfl⟩ := List.getElem?_eq_some_iff.1 h
  rw [List.take_succ_eq_append_getElem h1, kidsAll_app]
  simp [kidsAll]
theorem counts_le (a : Ex) {i m : Nat} {kids : List Nat} (h : kidsAll ((a.flat 0).take (i + 1)) = kidsAll ((a.flat 0).take i) ++ kids) (x : Nat) : (kidsAll ((a.flat 0).take i) ++ kids.take m).count x ≤ 1 := by
  have e : kidsAll (a.flat 0) = (kidsAll ((a.flat 0).take i) ++ kids.take m) ++ (kids.drop m ++ kidsAll ((a.flat 0).drop (i + 1))) := by
    have e1 : kidsAll (a.flat 0) = kidsAll ((a.flat 0).take (i + 1) ++ (a.flat 0).drop (i + 1)) := by rw [List.take_append_drop]
    rw [e1, kidsAll_app, h, List.append_assoc, List.append_assoc, ← List.append_assoc (kids.take m), List.take_append_drop]
  have := a.counts x
  rw [e, List.count_append] at this
  split at this <;> omega
theorem samesZ_bare {a b : Ex} (h : a.bare = b.bare) : samesZ ((a.flat 0).map Nd.z) ((b.flat 0).map Nd.z) = true := by
  rw [samesZ_iff]
  have := congrArg (List.map Nd.z) (flat_bare h 0)
  rw [List.map_map, List.map_map] at this ⊢
  exact this
/-- Whatever Read hands back. -/
theorem xread_some (s : ByteArray) (w : World) (hs : s.size ≤ 65536) (hR : Rd w) : Calls Tryz.prog 12 #[.string s] w fun e w' => ∃ v x y q, e = .returned (.tuple #[v, .agg #[.int .i64 x, .int .i64 y], .int .i64 q]) ∧ Below w.heap.size w w' := by
  refine (xread_any s w hs hR).mono ?_
  rintro e w' ⟨hb, h⟩
  cases hx : readL (dl s) with
  | error p =>
    rw [hx] at h
    exact ⟨_, _, _, _, h, hb⟩
  | ok a =>
    rw [hx] at h
    obtain ⟨v, h1, _⟩ := h
    exact ⟨v, _, _, _, h1, hb⟩
theorem dl_par (s : ByteArray) : dl (⟨#[40]⟩ ++ s ++ ⟨#[10, 41]⟩) = 40 :: (dl s ++ [10, 41]) := by
  rw [dl_app, dl_app]
  rfl
set_option maxRecDepth 100000 in
set_option maxHeartbeats 16000000 in
theorem brackets_ok (s : ByteArray) (w : World) (hR : Rd w) (hs : s.size ≤ 500) {a a' : Ex} (h : readL (dl s) = .ok a) (h' : readL (dl (⟨#[40]⟩ ++ s ++ ⟨#[10, 41]⟩)) = .ok a') (hb : a'.bare = a.bare) :
    Calls Tryz.prog 5 #[.string s] w fun e w' => e = .returned (.bool true) ∧ Below w.heap.size w w' := by
  have h60 : a.size ≤ 60 := by obtain ⟨_, _, _, h3⟩ := readL_ok h; exact h3
  have h60' : a'.size ≤ 60 := by obtain ⟨_, _, _, h3⟩ := readL_ok h'; exact h3
  have hpos := a.size_pos
  have hsz : (⟨#[40]⟩ ++ s ++ ⟨#[10, 41]⟩ : ByteArray).size ≤ 65536 := by rw [ByteArray.size_append, ByteArray.size_append]; show 1 + s.size + 2 ≤ _; omega
  have hsame := samesZ_bare hb.symm
  have i1 : decide ((500 : Int) < (s.size : Int)) = false := by simp; omega
  have HSL := hide (read_slim h)
  have HSL' := hide (read_slim h')
  have L1 := hide (rtree w (by omega) hR h)
  have L2 := fun V hV => hide (rtree V hsz hV h')
  have HR := hide hR
  clear hR h h' hb hsz
  go_enter Tryz.func5, Tryz.ntmps5
  go_wp2_with fail
  (with_reducible refine L1.out.mono ?_)
  rintro e V1 ⟨v1, rfl, ht1, hb1⟩
  have hz1 := ht1.z (by rw [Ex.flat_len]; omega) HSL.out
  have hb2 : Below w.heap.size w (V1.alloc (.cells #[.int .i64 0, .int .i64 0] 26)) := hb1.alloc hb1.size _
  have hz1 := hz1.below ((Below.refl _ V1).alloc (Nat.le_refl _) (.cells #[.int .i64 0, .int .i64 0] 26))
  have HB2 := hide hb2
  have HZ1 := hide hz1
  clear hb1 hb2 L1 ht1 hz1
  go_wp2_with fail
  (with_reducible refine (L2 _ (HR.out.below HB2.out)).out.mono ?_)
  rintro e V2 ⟨v2, rfl, ht2, hb3⟩
  have hz2 := ht2.z (by rw [Ex.flat_len]; omega) HSL'.out
  have hb4 := HB2.out.trans (hb3.mono HB2.out.size)
  have hb5 : Below w.heap.size w (V2.alloc (.cells #[.int .i64 0, .int .i64 0] 26)) := hb4.alloc hb4.size _
  have hbV : Below V2.heap.size V2 (V2.alloc (.cells #[.int .i64 0, .int .i64 0] 26)) := (Below.refl _ V2).alloc (Nat.le_refl _) _
  have hz2 := hz2.below hbV
  have hz1 := (HZ1.out.below hb3).below hbV
  have HQ := hide (same_any _ hz1 hz2)
  have HQ2 := fun V (hV : Below _ (V2.alloc (.cells #[.int .i64 0, .int .i64 0] 26)) V) => hide (rsame_true V (hz1.below hV) (hz2.below hV) hsame)
  rw [hsame] at HQ
  have hln : ((a.flat 0).map Nd.z).length = a.size := by rw [List.length_map, Ex.flat_len]
  have HZ := hide hz1
  obtain ⟨_, va, vc, rfl, _⟩ := hz1
  rw [hln] at HQ HQ2 HZ ⊢
  have HB5 := hide hb5
  have HLN := hide hln
  have d1 : ((a.size : Int) == 0) = false := by simp; omega
  have d2 : decide ((60 : Int) < (a.size : Int)) = false := by simp; omega
  have d3 : ((a.size : Int) != 0) = true := by simp; omega
  clear hb3 hb4 hb5 HB2 L2 HZ1 hbV hz2 ht2 hln hsame
  go_wp2_with fail
  (with_reducible refine HQ.out.mono ?_)
  rintro e V3 ⟨rfl, hb6⟩
  have HQ3 := HQ2 _ hb6
  have HB6 := hide hb6
  clear HQ HQ2 hb6
  go_wp2_with fail
  (with_reducible refine HQ3.out.mono ?_)
  rintro e V4 ⟨rfl, hb7⟩
  have hb8 := HB6.out.trans (hb7.mono HB6.out.size)
  have HZ4 := hide (HZ.out.below hb8)
  have HB8 := hide (HB5.out.trans (hb8.mono HB5.out.size))
  clear hb7 hb8 HB6 HZ HB5 HQ3
  obtain ⟨W0, hmk, hbW0, hnums⟩ := make_ints a.size (by omega) V4
  obtain ⟨fb, hfb⟩ : ∃ fb, V4.heap.size = fb := ⟨_, rfl⟩
  rw [hfb] at hmk hnums hbW0
  have HFB := hide hfb
  have HS : Hid (NumsAt W0 fb (cntL a.size (kidsAll ((a.flat 0).take 0))) ∧ Below fb V4 W0) := hide ⟨by rw [List.take_zero]; show NumsAt W0 fb (cntL a.size []); rw [cntL_nil]; exact hnums, hbW0⟩
  clear hz1 hz2 hnums hbW0 hfb
  go_wp2_with fail
  go_loopw [73] (fun v73 wr => ∃ i : Nat, i ≤ a.size ∧ v73 = .int .i64 i ∧ Hid (NumsAt wr fb (cntL a.size (kidsAll ((a.flat 0).take i))) ∧ Below fb V4 wr)) (fun v73 _ => a.size - (intOf v73).toNat)
  case atStart => exact ⟨0, Nat.zero_le _, rfl, HS⟩
  case round =>
    obtain ⟨wo, rfl⟩ : ∃ wo : World, wo = wr := ⟨_, rfl⟩
    obtain ⟨i, hi, rfl, hq⟩ := hrel
    obtain ⟨hF, hBr⟩ := hq.out
    by_cases hil : i < a.size
    · have hBr' := HFB.out ▸ hBr
      obtain ⟨_, va', vc', ev, hnz⟩ := HZ4.out
      injection ev with ev1 ev3 ev2
      subst ev1 ev2
      clear ev3
      have hil' : i < ((a.flat 0).map Nd.z).length := by rw [HLN.out]; exact hil
      obtain ⟨bx, ox, kx, rfl, hna, hki⟩ := hnz i hil'
      obtain ⟨n, hn1, hn2⟩ := nz_get a hil'
      rw [hn2] at hna hki
      have hna := hna.below hBr'
      obtain ⟨sx, hsx⟩ : ∃ sx, (a.starts 0)[i]? = some sx := ⟨_, List.getElem?_eq_getElem (by rw [Ex.starts_len]; exact hil)⟩
      obtain ⟨cs, hcs⟩ := a.cuts hn1 hsx
      have hnext := kidsAll_take hn1
      obtain ⟨⟨op, ⟨vk, vn, vs⟩, nm, ln, cl⟩, kids⟩ := n
      obtain ⟨x0, x1, x2, x3, x4, x5, x6, x7⟩ := hna
      simp only [Nd.z] at x0 x1 x2 x3 x4 x5 x6 x7 hki hnext
      obtain ⟨hkl, ka, kc, rfl, hkc0⟩ := hki
      have hkc : ∀ (j x : Nat), kids[j]? = some x → ∃ b off, ka = some ⟨b, off, none⟩ ∧ V4.cell? ⟨b, off + j, none⟩ = some (.int .i64 (x : Int)) := fun j x hj => by
        obtain ⟨hj1, hj2⟩ := List.getElem?_eq_some_iff.1 hj
        obtain ⟨b, off, e, hc⟩ := hkc0 j (by simpa using hj1)
        refine ⟨b, off, e, ?_⟩
        rw [hc]
        simp [hj2]
      rw [List.length_map] at hkl x5
      clear hkc0
      have HF := hide hF
      have HBr := hide hBr
      have Hlt := hide hcs.lt
      have Hkc := hide hkc
      have Hnext := hide hnext
      have j0 : (0 : Int) ≤ (i : Int) := by omega
      have j1 : (i : Int) < (a.size : Int) := by omega
      have j2 : decide ((i : Int) < (a.size : Int)) = true := decide_eq_true j1
      have hbx := lt_of_cell x0
      clear hq hF hBr hcs hkc hsx hn1 hn2 hnz HS hmk hnext
      obtain ⟨W1, hW1⟩ : ∃ W1, wo.alloc (.cells #[.int .u8 op, .int .u8 vk, .int .i64 vn, .string ⟨vs.toArray⟩, .string ⟨nm.toArray⟩, .slice ka kids.length kc, .int .i64 ln, .int .i64 cl] 34) = W1 := ⟨_, rfl⟩
      have hp1 := heap_alloc0 wo (.cells #[.int .u8 op, .int .u8 vk, .int .i64 vn, .string ⟨vs.toArray⟩, .string ⟨nm.toArray⟩, .slice ka kids.length kc, .int .i64 ln, .int .i64 cl] 34)
      have hb1 : Below wo.heap.size wo W1 := by rw [← hW1]; exact (Below.refl _ wo).alloc (Nat.le_refl _) _
      rw [hW1] at hp1
      obtain ⟨n0, n1, n2, n3, n4, n5, n6, n7, _⟩ := nodeCells hp1
      have hF1 := HF.out.below hb1
      have hB1 := HBr.out.trans (hb1.mono (by rw [← HFB.out]; exact HBr.out.size))
      have HL : Hid (NumsAt W1 fb (cntL a.size (kidsAll ((a.flat 0).take i) ++ kids.take 0)) ∧ Below fb V4 W1) := hide ⟨by rw [List.take_zero, List.append_nil]; exact hF1, hB1⟩
      clear hp1 hb1 hF1 hB1
      go_wp2_with fail
      go_loopw [81] (fun v81 wx => ∃ m : Nat, m ≤ kids.length ∧ v81 = .int .i64 m ∧ Hid (NumsAt wx fb (cntL a.size (kidsAll ((a.flat 0).take i) ++ kids.take m)) ∧ Below fb V4 wx)) (fun v81 _ => kids.length - (intOf v81).toNat)
      case atStart => exact ⟨0, Nat.zero_le _, rfl, HL⟩
      case round =>
        obtain ⟨m, hm, rfl, hq⟩ := hrel
        obtain ⟨hc2, hBx⟩ := hq.out
        by_cases hml : m < kids.length
        · obtain ⟨bk, ok, ek, hkcell⟩ := Hkc.out m kids[m] (List.getElem?_eq_getElem hml)
          have hkcell := bcell (HFB.out ▸ hBx) hkcell
          have hxi := Hlt.out m kids[m] (List.getElem?_eq_getElem hml)
          have htk := List.take_succ_eq_append_getElem hml
          obtain ⟨x, hx⟩ : ∃ x, kids[m] = x := ⟨_, rfl⟩
          rw [hx] at hkcell hxi htk
          have hxa : x < a.size := by omega
          have hcx := hc2.cell (cntL_get _ hxa)
          have hfz := hc2.frozen x
          have hset := hc2.set x ((kidsAll ((a.flat 0).take i) ++ kids.take m).count x + 1)
          rw [cntL_next, List.append_assoc, ← htk, Int.natCast_succ] at hset
          have hcn1 := counts_le a (m := m) Hnext.out x
          obtain ⟨cn, hcn⟩ : ∃ cn, (kidsAll ((a.flat 0).take i) ++ kids.take m).count x = cn := ⟨_, rfl⟩
          rw [hcn] at hcx hset hcn1
          subst ek
          have HN := hide (show NumsAt (wr.setCell ⟨fb, x, none⟩ (.int .i64 ((cn : Int) + 1))) fb (cntL a.size (kidsAll ((a.flat 0).take i) ++ kids.take (m + 1))) ∧ Below fb V4 (wr.setCell ⟨fb, x, none⟩ (.int .i64 ((cn : Int) + 1))) from ⟨hset, hBx.setCell (Nat.le_refl fb) _⟩)
          have e1 : decide ((x : Int) < 0) = false := decide_eq_false (by omega)
          have e2 : decide ((i : Int) ≤ (x : Int)) = false := decide_eq_false (by omega)
          have e3 : (0 : Int) ≤ (m : Int) := by omega
          have e4 : (m : Int) < (kids.length : Int) := by omega
          have e5 : (0 : Int) ≤ (x : Int) := by omega
          have e6 : (x : Int) < (a.size : Int) := by omega
          have e7 : (0 : Int) ≤ (cn : Int) := by omega
          have e8 : (cn : Int) ≤ 1 := by omega
          have e9 : decide ((m : Int) < (kids.length : Int)) = true := decide_eq_true e4
          clear hq hc2 hBx hset hx hcn htk n0 n1 n2 n3 n4 n5 n6 n7
          go_wp2_with fail
          go_roundw
          case rel => exact ⟨m + 1, by omega, by go_num, HN⟩
          case measure => simp [intOf]; omega
        · obtain rfl : m = kids.length := by omega
          rw [List.take_length, ← Hnext.out] at hc2
          have HN : Hid (NumsAt wr fb (cntL a.size (kidsAll ((a.flat 0).take (i + 1)))) ∧ Below fb V4 wr) := hide ⟨hc2, hBx⟩
          have e9 : decide ((kids.length : Int) < (kids.length : Int)) = false := by simp
          clear hq hc2 hBx hml
          go_wp2_with fail
          go_roundw
          case rel => exact ⟨i + 1, by omega, by go_num, HN⟩
          case measure => simp [intOf]; omega
    · obtain rfl : i = a.size := by omega
      rw [List.take_of_length_le (by rw [Ex.flat_len]; omega)] at hF
      have HF : Hid (NumsAt wo fb (cntL a.size (kidsAll (a.flat 0))) ∧ Below fb V4 wo) := hide ⟨hF, hBr⟩
      have j2 : decide ((a.size : Int) < (a.size : Int)) = false := by simp
      clear hq hF hBr HS hmk
      go_wp2_with fail
      go_loopw [102] (fun v102 wx => ∃ m : Nat, m ≤ a.size ∧ v102 = .int .i64 m ∧ Hid (NumsAt wx fb (cntL a.size (kidsAll (a.flat 0))) ∧ Below fb V4 wx)) (fun v102 _ => a.size - (intOf v102).toNat)
      case atStart => exact ⟨0, Nat.zero_le _, rfl, HF⟩
      case round =>
        obtain ⟨m, hm, rfl, hq⟩ := hrel
        obtain ⟨hc2, hBx⟩ := hq.out
        by_cases hml : m < a.size
        · have hcx := hc2.cell (cntL_get _ hml)
          rw [Ex.counts] at hcx
          have e3 : (0 : Int) ≤ (m : Int) := by omega
          have e4 : (m : Int) < (a.size : Int) := by omega
          have e9 : decide ((m : Int) < (a.size : Int)) = true := decide_eq_true e4
          have HN := hq
          by_cases hl : m + 1 < a.size
          · rw [if_pos hl] at hcx
            have f1 : decide ((m : Int) < (a.size : Int) - 1) = true := decide_eq_true (by omega)
            clear hq hc2 hBx hl
            go_wp2_with fail
            go_roundw
            case rel => exact ⟨m + 1, by omega, by go_num, HN⟩
            case measure => simp [intOf]; omega
          · rw [if_neg hl] at hcx
            have f1 : decide ((m : Int) < (a.size : Int) - 1) = false := decide_eq_false (by omega)
            clear hq hc2 hBx hl
            go_wp2_with fail
            go_roundw
            case rel => exact ⟨m + 1, by omega, by go_num, HN⟩
            case measure => simp [intOf]; omega
        · obtain rfl : m = a.size := by omega
          have hBw := HB8.out.trans (hBx.mono (by rw [← HFB.out]; exact HB8.out.size))
          have Hkn := hide (known07 wr (HR.out.below hBw))
          have HBw := hide hBw
          clear hq hc2 hBx hml hBw
          go_wp2_with fail
          (with_reducible refine Hkn.out.mono ?_)
          rintro e V9 ⟨rfl, hb9⟩
          have HB9 := hide (HBw.out.trans (hb9.mono HBw.out.size))
          clear hb9 Hkn
          go_wp2_with fail
          go_ret
          exact ⟨rfl, HB9.out⟩
set_option maxRecDepth 100000 in
set_option maxHeartbeats 16000000 in
theorem brackets_walk (s : ByteArray) (w : World) (hR : Rd w) : Calls Tryz.prog 5 #[.string s] w fun e w' => e = .returned (.bool true) ∧ Below w.heap.size w w' := by
  by_cases hs : s.size ≤ 500
  · have i1 : decide ((500 : Int) < (s.size : Int)) = false := by simp; omega
    have hsz : (⟨#[40]⟩ ++ s ++ ⟨#[10, 41]⟩ : ByteArray).size ≤ 65536 := by rw [ByteArray.size_append, ByteArray.size_append]; show 1 + s.size + 2 ≤ _; omega
    have L2 := fun V hV => hide (xread_any (⟨#[40]⟩ ++ s ++ ⟨#[10, 41]⟩) V hsz hV)
    cases h : readL (dl s) with
    | error p =>
      obtain ⟨⟨x, y⟩, q⟩ := p
      have hq := readL_err h
      have hq1 : (q != 0) = true := by simpa using hq
      have L1 := hide (rnone w (by omega) hR h)
      have L3 := fun V hV => hide (xread_some (⟨#[40]⟩ ++ s ++ ⟨#[10, 41]⟩) V hsz hV)
      have HR := hide hR
      clear hR h hq hsz L2
      go_enter Tryz.func5, Tryz.ntmps5
      go_wp2_with fail
      (with_reducible refine L1.out.mono ?_)
      rintro e V1 ⟨rfl, hb1⟩
      have hb2 : Below w.heap.size w (V1.alloc (.cells #[.int .i64 x, .int .i64 y] 26)) := hb1.alloc hb1.size _
      have HB2 := hide hb2
      clear hb1 hb2 L1
      go_wp2_with fail
      (with_reducible refine (L3 _ (HR.out.below HB2.out)).out.mono ?_)
      rintro e V2 ⟨v2, x2, y2, q2, rfl, hb3⟩
      have hb4 := HB2.out.trans (hb3.mono HB2.out.size)
      have hb5 : Below w.heap.size w (V2.alloc (.cells #[.int .i64 x2, .int .i64 y2] 26)) := hb4.alloc hb4.size _
      have Hkn := hide (known07 _ (HR.out.below hb5))
      have HB5 := hide hb5
      clear hb3 hb4 hb5 HB2 L3
      go_wp2_with fail
      (with_reducible refine Hkn.out.mono ?_)
      rintro e V9 ⟨rfl, hb9⟩
      have HB9 := hide (HB5.out.trans (hb9.mono HB5.out.size))
      clear hb9 Hkn
      go_wp2_with fail
      go_ret
      exact ⟨rfl, HB9.out⟩
    | ok a =>
      rcases bracket_read h with ⟨a', h', hb⟩ | ⟨⟨x, y⟩, h'⟩
      · rw [← dl_par] at h'
        exact brackets_ok s w hR hs h h' hb
      · rw [← dl_par] at h'
        have L1 := hide (rtree w (by omega) hR h)
        have L3 := fun V hV => hide (rnone V hsz hV h')
        have HR := hide hR
        clear hR h h' hsz L2
        go_enter Tryz.func5, Tryz.ntmps5
        go_wp2_with fail
        (with_reducible refine L1.out.mono ?_)
        rintro e V1 ⟨v1, rfl, _, hb1⟩
        have hb2 : Below w.heap.size w (V1.alloc (.cells #[.int .i64 0, .int .i64 0] 26)) := hb1.alloc hb1.size _
        have HB2 := hide hb2
        clear hb1 hb2 L1
        go_wp2_with fail
        (with_reducible refine (L3 _ (HR.out.below HB2.out)).out.mono ?_)
        rintro e V2 ⟨rfl, hb3⟩
        have hb4 := HB2.out.trans (hb3.mono HB2.out.size)
        have hb5 : Below w.heap.size w (V2.alloc (.cells #[.int .i64 x, .int .i64 y] 26)) := hb4.alloc hb4.size _
        have Hkn := hide (known07 _ (HR.out.below hb5))
        have HB5 := hide hb5
        clear hb3 hb4 hb5 HB2 L3
        go_wp2_with fail
        (with_reducible refine Hkn.out.mono ?_)
        rintro e V9 ⟨rfl, hb9⟩
        have HB9 := hide (HB5.out.trans (hb9.mono HB5.out.size))
        clear hb9 Hkn
        go_wp2_with fail
        go_ret
        exact ⟨rfl, HB9.out⟩
  · have i1 : decide ((500 : Int) < (s.size : Int)) = true := by simp; omega
    have Hkn := hide (known07 w hR)
    clear hR hs
    go_enter Tryz.func5, Tryz.ntmps5
    go_wp2_with fail
    (with_reducible refine Hkn.out.mono ?_)
    rintro e V9 ⟨rfl, hb9⟩
    have HB9 := hide hb9
    clear hb9 Hkn
    go_wp2_with fail
    go_ret
    exact ⟨rfl, HB9.out⟩
end Go.Proofs.YtkjndabbkfbkaaaGreatDoor
