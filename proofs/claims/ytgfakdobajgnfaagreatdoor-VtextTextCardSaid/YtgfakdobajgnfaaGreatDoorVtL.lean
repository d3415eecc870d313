/- Values and their texts, in plain words: what a text is, what is read; no program is named. -/
import Derived.Lib.Replace
import Derived.Lib.TrimByte
import Derived.Lib.ParseIntBCases
import Derived.Lib.ItoaMem
import Derived.Lib.ItoaLen
namespace Go.Proofs.YtgfakdobajgnfaaGreatDoor
open Go Go.Lib

theorem isPrefixOf_one (c b : UInt8) (l : List UInt8) : [c].isPrefixOf (b :: l) = (c == b) := by
  simp [List.isPrefixOf]
theorem index_one_cons (c b : UInt8) (l : List UInt8) : index (b :: l) [c] = if b = c then 0 else if index l [c] = -1 then -1 else index l [c] + 1 := by
  rw [index, isPrefixOf_one]
  by_cases h : b = c
  · subst h; simp
  · have : (c == b) = false := by simpa using fun e : c = b => h e.symm
    rw [this, if_neg h]
    simp only [Bool.false_eq_true, if_false]
    by_cases h2 : index l [c] = -1
    · simp [h2]
    · have : (index l [c] == -1) = false := by simpa using h2
      rw [this, if_neg h2]
      simp
theorem index_one_nil (c : UInt8) : index [] [c] = -1 := rfl
theorem index_one_none {c : UInt8} {l : List UInt8} (h : c ∉ l) : index l [c] = -1 := by
  induction l with
  | nil => rfl
  | cons b l ih =>
    rw [index_one_cons, if_neg (fun e : b = c => h (e ▸ List.mem_cons_self)), if_pos (ih fun q => h (List.mem_cons_of_mem _ q))]
theorem index_one_some {c : UInt8} (a r : List UInt8) (h : c ∉ a) : index (a ++ c :: r) [c] = (a.length : Nat) := by
  induction a with
  | nil => rw [List.nil_append, index_one_cons, if_pos rfl]; rfl
  | cons b a ih =>
    rw [List.cons_append, index_one_cons, if_neg (fun e : b = c => h (e ▸ List.mem_cons_self)), ih fun q => h (List.mem_cons_of_mem _ q), if_neg (by omega)]
    simp
theorem cut_one_none {c : UInt8} {l : List UInt8} (h : c ∉ l) : cut l [c] = (l, [], false) := by
  unfold cut
  rw [index_one_none h]
  rfl
theorem cut_one_some {c : UInt8} (a r : List UInt8) (h : c ∉ a) : cut (a ++ c :: r) [c] = (a, r, true) := by
  unfold cut
  rw [index_one_some a r h, if_pos (by omega)]
  simp [List.drop_append]
/-- A byte's first place parts a text. -/
theorem split_one (c : UInt8) (l : List UInt8) : c ∉ l ∨ ∃ a r, l = a ++ c :: r ∧ c ∉ a := by
  by_cases h : c ∈ l
  · refine .inr ?_
    induction l with
    | nil => cases h
    | cons b l ih =>
      by_cases e : b = c
      · exact ⟨[], l, by rw [e]; rfl, by simp⟩
      · rcases List.mem_cons.1 h with q | q
        · exact absurd q.symm e
        · obtain ⟨a, r, e1, hn⟩ := ih q
          refine ⟨b :: a, r, by rw [e1]; rfl, ?_⟩
          rw [List.mem_cons]
          rintro (q | q)
          · exact e q.symm
          · exact hn q
  · exact .inl h
/-- What ReplaceAll makes of one byte. -/
def repB (c : UInt8) (new : List UInt8) (l : List UInt8) : List UInt8 := l.flatMap fun b => if b = c then new else [b]
theorem repB_none {c : UInt8} {new l : List UInt8} (h : c ∉ l) : repB c new l = l := by
  unfold repB
  induction l with
  | nil => rfl
  | cons b l ih =>
    rw [List.flatMap_cons, if_neg (fun e : b = c => h (e ▸ List.mem_cons_self)), ih fun q => h (List.mem_cons_of_mem _ q)]
    rfl
theorem count_one (c : UInt8) : ∀ (k : Nat) (l : List UInt8), l.length ≤ k → count l [c] = l.count c
  | 0, l, h => by
    obtain rfl : l = [] := List.eq_nil_of_length_eq_zero (by omega)
    rfl
  | k + 1, l, h => by
    rcases split_one c l with hn | ⟨a, r, rfl, hn⟩
    · rw [count_miss (index_one_none hn), List.count_eq_zero.2 hn]
    · rw [count_hit (by simp) (index_one_some a r hn)]
      have hd : (a ++ c :: r).drop (a.length + [c].length) = r := by simp [List.drop_append]
      rw [hd, count_one c k r (by simp at h; omega), List.count_append, List.count_eq_zero.2 hn]
      simp
      omega
theorem replaceK_one (c : UInt8) (new : List UInt8) : ∀ (k : Nat) (l : List UInt8), l.count c ≤ k → replaceK [c] new k l = repB c new l
  | 0, l, h => by
    have hn : c ∉ l := List.count_eq_zero.1 (by omega)
    rw [repB_none hn]
    rfl
  | k + 1, l, h => by
    rcases split_one c l with hn | ⟨a, r, rfl, hn⟩
    · rw [repB_none hn, replaceK, index_one_none hn]
      rfl
    · rw [replaceK_hit [c] new k _ a.length (index_one_some a r hn)]
      have hd : (a ++ c :: r).drop (a.length + [c].length) = r := by simp [List.drop_append]
      have hc : (a ++ c :: r).count c = r.count c + 1 := by rw [List.count_append, List.count_eq_zero.2 hn]; simp
      rw [hd, replaceK_one c new k r (by omega)]
      unfold repB
      rw [List.flatMap_append, List.flatMap_cons, if_pos rfl]
      have := repB_none (new := new) hn
      unfold repB at this
      rw [this]
      simp
theorem replaceAll_one (c : UInt8) (new l : List UInt8) (h : [c] ≠ new) : replaceAll l [c] new = repB c new l := by
  unfold replaceAll replace replaceNum
  have : ([c] == new) = false := by simpa using h
  rw [this, if_neg (by simp), if_pos (.inl (by omega)), count_one c l.length l (Nat.le_refl _)]
  exact replaceK_one c new _ l (Nat.le_refl _)

/-! ### digits -/
def digC (c : UInt8) : Bool := decide (48 ≤ c.toNat) && decide (c.toNat ≤ 57)
def digL (l : List UInt8) : Bool := !l.isEmpty && l.all digC
/-- What digits say. -/
def val (l : List UInt8) (acc : Nat) : Nat := l.foldl (fun a c => a * 10 + (c.toNat - 48)) acc
theorem val_ge (l : List UInt8) : ∀ acc, acc ≤ val l acc := by
  induction l with
  | nil => intro acc; exact Nat.le_refl _
  | cons c l ih =>
    intro acc
    have := ih (acc * 10 + (c.toNat - 48))
    show acc ≤ val l (acc * 10 + (c.toNat - 48))
    omega
theorem parse_val (M : Nat) (hM : M ≤ 18446744073709551615) : ∀ (l : List UInt8) (acc : Nat), l.all digC = true → val l acc ≤ M → parseUintM M acc l = .ok (val l acc)
  | [], acc, _, _ => rfl
  | c :: l, acc, hd, hv => by
    rw [List.all_cons, Bool.and_eq_true] at hd
    obtain ⟨h1, h2⟩ := hd
    have hc : 48 ≤ c.toNat ∧ c.toNat ≤ 57 := by simpa [digC] using h1
    have hv' : val l (acc * 10 + (c.toNat - 48)) ≤ M := hv
    have hg := val_ge l (acc * 10 + (c.toNat - 48))
    rw [parseUintM, if_pos hc, if_neg (by omega), if_neg (by omega)]
    exact parse_val M hM l _ h2 hv'
theorem toNat_dig (u : Nat) (h : u < 10) : (UInt8.ofNat (48 + u)).toNat = 48 + u := by
  rw [UInt8.toNat_ofNat']
  omega
theorem digC_of (u : Nat) (h : u < 10) : digC (UInt8.ofNat (48 + u)) = true := by
  unfold digC
  rw [toNat_dig u h]
  simp
  omega
theorem decDigits_small {u : Nat} (h : u < 10) : decDigits u = [UInt8.ofNat (48 + u)] := by rw [decDigits, dif_pos h]
theorem decDigits_big {u : Nat} (h : ¬ u < 10) : decDigits u = decDigits (u / 10) ++ [UInt8.ofNat (48 + u % 10)] := by rw [decDigits, dif_neg h]
theorem decDigits_all (u : Nat) : (decDigits u).all digC = true := by
  induction u using Nat.strongRecOn with
  | _ u ih =>
    by_cases h : u < 10
    · rw [decDigits_small h]
      rw [List.all_cons, digC_of u h]; rfl
    · rw [decDigits_big h, List.all_append, ih _ (by omega)]
      rw [List.all_cons, digC_of (u % 10) (by omega)]; rfl
theorem decDigits_val (u : Nat) : val (decDigits u) 0 = u := by
  induction u using Nat.strongRecOn with
  | _ u ih =>
    by_cases h : u < 10
    · rw [decDigits_small h]
      show 0 * 10 + ((UInt8.ofNat (48 + u)).toNat - 48) = u
      rw [toNat_dig u h]
      omega
    · rw [decDigits_big h]
      unfold val
      rw [List.foldl_append]
      have := ih (u / 10) (by omega)
      unfold val at this
      rw [this]
      show u / 10 * 10 + ((UInt8.ofNat (48 + u % 10)).toNat - 48) = u
      rw [toNat_dig _ (by omega)]
      omega
theorem decDigits_ne (u : Nat) : decDigits u ≠ [] := by
  by_cases h : u < 10
  · rw [decDigits_small h]; simp
  · rw [decDigits_big h]; simp
/-- The first digit is 0 of 0 alone. -/
theorem decDigits_head (u : Nat) : ∃ c r, decDigits u = c :: r ∧ (u ≠ 0 → c.toNat ≠ 48) := by
  induction u using Nat.strongRecOn with
  | _ u ih =>
    by_cases h : u < 10
    · refine ⟨_, [], decDigits_small h, fun hu => ?_⟩
      rw [toNat_dig u h]
      omega
    · obtain ⟨c, r, e, hc⟩ := ih (u / 10) (by omega)
      exact ⟨c, r ++ [UInt8.ofNat (48 + u % 10)], by rw [decDigits_big h, e]; rfl, fun _ => hc (by omega)⟩
theorem decDigits_len1 {u : Nat} (h : 1 < (decDigits u).length) : u ≠ 0 := by
  rintro rfl
  rw [decDigits_small (by omega)] at h
  simp at h
theorem not_dig {c : UInt8} {l : List UInt8} (h : l.all digC = true) (hc : digC c = false) : c ∉ l := fun q => by
  have := List.all_eq_true.1 h c q
  rw [hc] at this
  cases this
theorem int_of_digits (l : List UInt8) (hne : l ≠ []) (hd : l.all digC = true) (n : Int) (hn : (val l 0 : Int) = n.natAbs) (h0 : -9223372036854775808 ≤ n) (h1 : n ≤ 9223372036854775807) :
    parseIntB 64 (if n < 0 then 45 :: l else l) = .ok n := by
  have hb : parseUintB 64 l = .ok (val l 0) := by
    unfold parseUintB
    rw [if_neg hne]
    exact parse_val _ (by decide) l 0 hd (by have : (2:Nat) ^ 64 - 1 = 18446744073709551615 := by decide
                                             omega)
  have e63 : (2 : Nat) ^ (64 - 1) = 9223372036854775808 := by decide
  by_cases hneg : n < 0
  · rw [if_pos hneg, parseIntB_minus, hb]
    unfold signedC
    simp only [e63]
    rw [if_neg (by omega)]
    congr 1
    omega
  · rw [if_neg hneg]
    obtain ⟨c, r, rfl⟩ := List.exists_cons_of_ne_nil hne
    have hc := hd
    rw [List.all_cons, Bool.and_eq_true] at hc
    have hc1 : 48 ≤ c.toNat ∧ c.toNat ≤ 57 := by simpa [digC] using hc.1
    rw [parseIntB_plain 64 c r (by omega) (by omega), hb]
    unfold signlessC
    simp only [e63]
    rw [if_neg (by omega)]
    congr 1
    omega

/-! ### texts -/
/-- At least five digits. -/
def pad5 (l : List UInt8) : List UInt8 := List.replicate (5 - l.length) 48 ++ l
theorem pad5_len (l : List UInt8) : 5 ≤ (pad5 l).length := by
  unfold pad5
  rw [List.length_append, List.length_replicate]
  omega
theorem val_zeros (l : List UInt8) : ∀ k, val (List.replicate k 48 ++ l) 0 = val l 0
  | 0 => rfl
  | k + 1 => by
    rw [List.replicate_succ, List.cons_append]
    show val (List.replicate k 48 ++ l) (0 * 10 + ((48 : UInt8).toNat - 48)) = val l 0
    exact val_zeros l k
theorem zeros_dig (k : Nat) : (List.replicate k (48 : UInt8)).all digC = true := by
  rw [List.all_eq_true]
  intro c hc
  rw [List.eq_of_mem_replicate hc]
  rfl
theorem pad5_dig {l : List UInt8} (h : l.all digC = true) : (pad5 l).all digC = true := by
  unfold pad5
  rw [List.all_append, h, zeros_dig]
  rfl
/-- A fraction's digits, without noughts behind, but one. -/
def fracT (r : List UInt8) : List UInt8 := if trimRightB r 48 = [] then [48] else trimRightB r 48
theorem trimR_parts (r : List UInt8) : ∃ k, r = trimRightB r 48 ++ List.replicate k 48 := by
  refine ⟨(r.reverse.takeWhile (· == 48)).length, ?_⟩
  have h1 : r.reverse.takeWhile (· == (48 : UInt8)) = List.replicate (r.reverse.takeWhile (· == 48)).length 48 := by
    refine List.eq_replicate_iff.2 ⟨rfl, fun b hb => ?_⟩
    have := List.all_takeWhile (l := r.reverse) (p := (· == (48 : UInt8)))
    rw [List.all_eq_true] at this
    simpa using this b hb
  have h2 := List.takeWhile_append_dropWhile (p := (· == (48 : UInt8))) (l := r.reverse)
  have h3 := congrArg List.reverse h2
  rw [List.reverse_append, List.reverse_reverse] at h3
  unfold trimRightB
  refine h3.symm.trans ?_
  congr 1
  rw [h1, List.reverse_replicate]
  simp
theorem fracT_four {r : List UInt8} (hl : r.length = 4) : (fracT r ++ [48, 48, 48, 48]).take 4 = r := by
  obtain ⟨k, hk⟩ := trimR_parts r
  have hlen : (trimRightB r 48).length + k = 4 := by
    have := congrArg List.length hk
    rw [List.length_append, List.length_replicate] at this
    omega
  unfold fracT
  split
  · rename_i h0
    rw [h0] at hk hlen
    have : k = 4 := by simpa using hlen
    rw [hk, this]
    rfl
  · generalize trimRightB r 48 = t at hk hlen ⊢
    have e4 : ([48, 48, 48, 48] : List UInt8) = List.replicate k 48 ++ List.replicate (4 - k) 48 := by
      rw [List.replicate_append_replicate]
      have : k + (4 - k) = 4 := by omega
      rw [this]
      rfl
    rw [e4, ← List.append_assoc, ← hk, List.take_append_of_le_length (by omega), List.take_of_length_le (by omega)]
theorem fracT_sub {r : List UInt8} : ∀ c ∈ fracT r, c = 48 ∨ c ∈ r := by
  intro c hc
  unfold fracT at hc
  split at hc
  · exact .inl (by simpa using hc)
  · obtain ⟨k, hk⟩ := trimR_parts r
    rw [hk]
    exact .inr (List.mem_append_left _ hc)
theorem fracT_len {r : List UInt8} (hl : r.length = 4) : 1 ≤ (fracT r).length ∧ (fracT r).length ≤ 4 := by
  unfold fracT
  obtain ⟨k, hk⟩ := trimR_parts r
  have := congrArg List.length hk
  rw [List.length_append] at this
  split
  · simp
  · rename_i h0
    have := List.length_pos_iff.2 h0
    omega
theorem fracT_dig {r : List UInt8} (h : r.all digC = true) : (fracT r).all digC = true := by
  rw [List.all_eq_true]
  intro c hc
  rcases fracT_sub c hc with rfl | q
  · rfl
  · exact List.all_eq_true.1 h c q
/-- A decimal's text. -/
def decT (n : Int) : List UInt8 := (if n < 0 then [45] else []) ++ ((pad5 (decDigits n.natAbs)).take ((pad5 (decDigits n.natAbs)).length - 4) ++ 46 :: fracT ((pad5 (decDigits n.natAbs)).drop ((pad5 (decDigits n.natAbs)).length - 4)))
/-- A text in quotes. -/
def escT (l : List UInt8) : List UInt8 := repB 34 [92, 34] (repB 92 [92, 92] l)
def quoT (l : List UInt8) : List UInt8 := 34 :: (escT l ++ [34])
/-- The text of a value that may be. -/
def txtL (k n : Int) (s : List UInt8) : List UInt8 :=
  if k = 1 then itoa n else if k = 2 then decT n else if k = 3 then quoT s else if k = 4 then (if n = 1 then [116, 114, 117, 101] else [102, 97, 108, 115, 101]) else if k = 5 then 35 :: s else [110, 117, 108, 108]

/-! ### what a text says -/
/-- A number's text: its kind and number, or why not. -/
def numP (l : List UInt8) : Except Int (Int × Int) :=
  let c := cut (if l.head? = some 45 then l.tail else l) [46]
  if (!digL c.1 || (decide (1 < c.1.length) && c.1.head? == some 48)) || (c.2.2 && (!digL c.2.1 || decide (4 < c.2.1.length))) then .error 4
  else
    let d := if c.2.2 then c.1 ++ (c.2.1 ++ [48, 48, 48, 48]).take 4 else c.1
    match parseIntB 64 (if l.head? = some 45 then 45 :: d else d) with
    | .ok n => .ok (if c.2.2 then 2 else 1, n)
    | _ => .error 9
/-- What stands in quotes. -/
def innerL : List UInt8 → List UInt8
  | c :: y :: r => if c = 92 then y :: innerL r else c :: innerL (y :: r)
  | _ => []
/-- A value that a text says, or why not. -/
def readP (l : List UInt8) : Except Int (Int × Int × List UInt8) :=
  match l with
  | 34 :: r => .ok (3, 0, innerL r)
  | 35 :: r => .ok (5, 0, r)
  | 116 :: r => if r = [114, 117, 101] then .ok (4, 1, []) else .error 4
  | 102 :: r => if r = [97, 108, 115, 101] then .ok (4, 0, []) else .error 4
  | 110 :: r => if r = [117, 108, 108] then .ok (0, 0, []) else .error 4
  | l => (numP l).map fun p => (p.1, p.2, [])
theorem readP_num {c : UInt8} {r : List UInt8} (h : c ≠ 34 ∧ c ≠ 35 ∧ c ≠ 116 ∧ c ≠ 102 ∧ c ≠ 110) : readP (c :: r) = (numP (c :: r)).map fun p => (p.1, p.2, []) := by
  obtain ⟨h1, h2, h3, h4, h5⟩ := h
  unfold readP
  split
  · rename_i e; injection e with e; exact absurd e h1
  · rename_i e; injection e with e; exact absurd e h2
  · rename_i e; injection e with e; exact absurd e h3
  · rename_i e; injection e with e; exact absurd e h4
  · rename_i e; injection e with e; exact absurd e h5
  · rfl
theorem head_not45 {l : List UInt8} (h : l.all digC = true) : l.head? ≠ some 45 := by
  cases l with
  | nil => simp
  | cons c l =>
    intro e
    injection e with e
    subst e
    rw [List.all_cons] at h
    simp [digC] at h
/-- A number's text with a whole part alone. -/
theorem numP_int (n : Int) (h0 : -9223372036854775808 ≤ n) (h1 : n ≤ 9223372036854775807) : numP (itoa n) = .ok (1, n) := by
  have hd := decDigits_all n.natAbs
  have hne := decDigits_ne n.natAbs
  have hv := decDigits_val n.natAbs
  have hp := int_of_digits _ hne hd n (by rw [hv]) h0 h1
  have hcut : cut (decDigits n.natAbs) [46] = (decDigits n.natAbs, [], false) := cut_one_none (not_dig hd rfl)
  have hdl : digL (decDigits n.natAbs) = true := by
    unfold digL
    rw [hd]
    cases h : decDigits n.natAbs with
    | nil => exact absurd h hne
    | cons => rfl
  have hz : (decide (1 < (decDigits n.natAbs).length) && (decDigits n.natAbs).head? == some 48) = false := by
    by_cases h1 : 1 < (decDigits n.natAbs).length
    · obtain ⟨c, r, e, hc⟩ := decDigits_head n.natAbs
      have := hc (decDigits_len1 h1)
      rw [e]
      have : (c == 48) = false := by
        simp
        rintro rfl
        exact this rfl
      simp [this]
    · simp [h1]
  have hit : itoa n = if n < 0 then 45 :: decDigits n.natAbs else decDigits n.natAbs := by
    unfold itoa
    split
    · rfl
    · congr 1
      omega
  have ht : (if (itoa n).head? = some 45 then (itoa n).tail else itoa n) = decDigits n.natAbs := by
    rw [hit]
    by_cases hn : n < 0
    · rw [if_pos hn]; rfl
    · rw [if_neg hn, if_neg (head_not45 hd)]
  have hs : (if (itoa n).head? = some 45 then 45 :: decDigits n.natAbs else decDigits n.natAbs) = if n < 0 then 45 :: decDigits n.natAbs else decDigits n.natAbs := by
    rw [hit]
    by_cases hn : n < 0
    · rw [if_pos hn]; rfl
    · rw [if_neg hn, if_neg (head_not45 hd)]
  unfold numP
  simp only [ht, hcut, hdl, hz, Bool.not_true, Bool.false_or, Bool.false_and, Bool.false_eq_true, if_false, hs, hp]
/-- A decimal's text. -/
theorem numP_dec (n : Int) (h0 : -9223372036854775808 ≤ n) (h1 : n ≤ 9223372036854775807) : numP (decT n) = .ok (2, n) := by
  have hd := pad5_dig (decDigits_all n.natAbs)
  have hl5 := pad5_len (decDigits n.natAbs)
  have hv : val (pad5 (decDigits n.natAbs)) 0 = n.natAbs := by unfold pad5; rw [val_zeros, decDigits_val]
  have hlead : 5 < (pad5 (decDigits n.natAbs)).length → (pad5 (decDigits n.natAbs)).head? ≠ some 48 := fun h => by
    have hl : 5 ≤ (decDigits n.natAbs).length := by
      unfold pad5 at h
      rw [List.length_append, List.length_replicate] at h
      omega
    have e : pad5 (decDigits n.natAbs) = decDigits n.natAbs := by
      unfold pad5
      have : 5 - (decDigits n.natAbs).length = 0 := by omega
      rw [this]
      rfl
    rw [e]
    obtain ⟨c, r, e, hc⟩ := decDigits_head n.natAbs
    rw [e]
    intro q
    injection q with q
    exact hc (decDigits_len1 (by omega)) (by rw [q]; rfl)
  unfold decT
  generalize pad5 (decDigits n.natAbs) = p at hd hl5 hv hlead ⊢
  obtain ⟨m, hm⟩ : ∃ m, p.length = m + 4 := ⟨p.length - 4, by omega⟩
  have hm4 : p.length - 4 = m := by omega
  rw [hm4]
  have hne : p ≠ [] := by
    rintro rfl
    simp at hm
  have hw : (p.take m).all digC = true := List.all_eq_true.2 fun c hc => List.all_eq_true.1 hd c (List.mem_of_mem_take hc)
  have hf : (p.drop m).all digC = true := List.all_eq_true.2 fun c hc => List.all_eq_true.1 hd c (List.mem_of_mem_drop hc)
  have hfl : (p.drop m).length = 4 := by rw [List.length_drop]; omega
  have hwl : (p.take m).length = m := by rw [List.length_take]; omega
  have hp := int_of_digits p hne hd n (by rw [hv]) h0 h1
  have h4 := fracT_four hfl
  have hft := fracT_dig hf
  obtain ⟨hf1, hf4⟩ := fracT_len hfl
  have hcut : cut (p.take m ++ 46 :: fracT (p.drop m)) [46] = (p.take m, fracT (p.drop m), true) := cut_one_some _ _ (not_dig hw rfl)
  have hwne : p.take m ≠ [] := by
    intro e
    rw [e] at hwl
    simp at hwl
    omega
  have hdw : digL (p.take m) = true := by
    unfold digL
    rw [hw]
    cases h : p.take m with
    | nil => exact absurd h hwne
    | cons => rfl
  have hdf : digL (fracT (p.drop m)) = true := by
    unfold digL
    rw [hft]
    cases h : fracT (p.drop m) with
    | nil => rw [h] at hf1; simp at hf1
    | cons => rfl
  have hz : (decide (1 < (p.take m).length) && (p.take m).head? == some 48) = false := by
    by_cases h : 1 < (p.take m).length
    · have := hlead (by omega)
      have e : (p.take m).head? = p.head? := by
        rw [List.head?_take, if_neg (by omega)]
      rw [e]
      have : (p.head? == some 48) = false := by simpa using this
      rw [this]
      simp
    · rw [decide_eq_false h]; rfl
  have hlen4 : decide (4 < (fracT (p.drop m)).length) = false := by simp; omega
  have hh : (p.take m ++ 46 :: fracT (p.drop m)).head? ≠ some 45 := by
    cases h : p.take m with
    | nil => exact absurd h hwne
    | cons c r =>
      have := head_not45 hw
      rw [h] at this
      exact this
  have ht : ∀ sg : List UInt8, (sg = if n < 0 then [45] else []) → (if (sg ++ (p.take m ++ 46 :: fracT (p.drop m))).head? = some 45 then (sg ++ (p.take m ++ 46 :: fracT (p.drop m))).tail else sg ++ (p.take m ++ 46 :: fracT (p.drop m))) = p.take m ++ 46 :: fracT (p.drop m) := fun sg hsg => by
    subst hsg
    by_cases hn : n < 0
    · rw [if_pos hn]; rfl
    · rw [if_neg hn, List.nil_append, if_neg hh]
  have hs : ∀ sg : List UInt8, (sg = if n < 0 then [45] else []) → (if (sg ++ (p.take m ++ 46 :: fracT (p.drop m))).head? = some 45 then 45 :: p else p) = if n < 0 then 45 :: p else p := fun sg hsg => by
    subst hsg
    by_cases hn : n < 0
    · simp only [if_pos hn]; rfl
    · simp only [if_neg hn, List.nil_append, if_neg hh]
  have ht := ht _ rfl
  have hs := hs _ rfl
  unfold numP
  simp only [ht, hcut, hdw, hdf, hz, hlen4, Bool.not_true, Bool.true_and, Bool.or_false, Bool.false_eq_true, if_false, if_true, h4, List.take_append_drop, hs, hp]
theorem escT_cons (c : UInt8) (l : List UInt8) : escT (c :: l) = (if c = 92 then [92, 92] else if c = 34 then [92, 34] else [c]) ++ escT l := by
  unfold escT repB
  rw [List.flatMap_cons, List.flatMap_append]
  congr 1
  by_cases h : c = 92
  · subst h; rfl
  · rw [if_neg h, if_neg h]
    simp
theorem innerL_esc (l : List UInt8) : innerL (escT l ++ [34]) = l := by
  induction l with
  | nil => rfl
  | cons c l ih =>
    rw [escT_cons]
    by_cases h : c = 92
    · subst h
      show innerL (92 :: 92 :: (escT l ++ [34])) = _
      rw [innerL, if_pos rfl, ih]
    · rw [if_neg h]
      by_cases h2 : c = 34
      · subst h2
        show innerL (92 :: 34 :: (escT l ++ [34])) = _
        rw [innerL, if_pos rfl, ih]
      · rw [if_neg h2]
        show innerL (c :: (escT l ++ [34])) = _
        cases he : escT l ++ [34] with
        | nil => simp at he
        | cons y r =>
          rw [innerL, if_neg h, ← he, ih]

/-! ### which values may be -/
def lowC (c : UInt8) : Bool := decide (97 ≤ c.toNat) && decide (c.toNat ≤ 122)
def nameL (s : List UInt8) : Bool := match s with
  | [] => false
  | c :: r => decide (r.length < 12) && lowC c && r.all fun b => lowC b || digC b
def priC (c : UInt8) : Bool := decide (32 ≤ c.toNat) && decide (c.toNat ≤ 126)
def textL (s : List UInt8) : Bool := decide (s.length ≤ 200) && s.all priC
def mayL (k n : Int) (s : List UInt8) : Bool :=
  if k = 0 then decide (n = 0) && s.isEmpty else if k = 1 ∨ k = 2 then s.isEmpty else if k = 3 then decide (n = 0) && textL s
  else if k = 4 then s.isEmpty && decide (n = 0 ∨ n = 1) else if k = 5 then decide (n = 0) && nameL s else false
/-- The kinds, one by one. -/
theorem mayL_cases {k n : Int} {s : List UInt8} (h : mayL k n s = true) :
    (k = 0 ∧ n = 0 ∧ s = []) ∨ (k = 1 ∧ s = []) ∨ (k = 2 ∧ s = []) ∨ (k = 3 ∧ n = 0 ∧ s.length ≤ 200 ∧ s.all priC = true) ∨ (k = 4 ∧ s = [] ∧ (n = 0 ∨ n = 1)) ∨ (k = 5 ∧ n = 0 ∧ nameL s = true) := by
  unfold mayL at h
  by_cases k0 : k = 0
  · rw [if_pos k0, Bool.and_eq_true, decide_eq_true_eq, List.isEmpty_iff] at h
    exact .inl ⟨k0, h.1, h.2⟩
  rw [if_neg k0] at h
  by_cases k12 : k = 1 ∨ k = 2
  · rw [if_pos k12, List.isEmpty_iff] at h
    rcases k12 with e | e
    · exact .inr (.inl ⟨e, h⟩)
    · exact .inr (.inr (.inl ⟨e, h⟩))
  rw [if_neg k12] at h
  by_cases k3 : k = 3
  · rw [if_pos k3] at h
    unfold textL at h
    simp only [Bool.and_eq_true, decide_eq_true_eq] at h
    exact .inr (.inr (.inr (.inl ⟨k3, h.1, h.2.1, h.2.2⟩)))
  rw [if_neg k3] at h
  by_cases k4 : k = 4
  · rw [if_pos k4, Bool.and_eq_true, decide_eq_true_eq, List.isEmpty_iff] at h
    exact .inr (.inr (.inr (.inr (.inl ⟨k4, h.1, h.2⟩))))
  rw [if_neg k4] at h
  by_cases k5 : k = 5
  · rw [if_pos k5, Bool.and_eq_true, decide_eq_true_eq] at h
    exact .inr (.inr (.inr (.inr (.inr ⟨k5, h.1, h.2⟩))))
  rw [if_neg k5] at h
  cases h
/-- A number's text begins with a digit or with '-'. -/
theorem numHead {l : List UInt8} (hd : l.all digC = true) (hne : l ≠ []) (r : List UInt8) (b : Bool) : ∃ c q, (if b then 45 :: l else l) ++ r = c :: q ∧ (c = 45 ∨ digC c = true) := by
  cases b with
  | true => exact ⟨45, l ++ r, rfl, .inl rfl⟩
  | false =>
    obtain ⟨c, q, rfl⟩ := List.exists_cons_of_ne_nil hne
    rw [List.all_cons, Bool.and_eq_true] at hd
    exact ⟨c, q ++ r, rfl, .inr hd.1⟩
theorem itoa_head (n : Int) : ∃ c q, itoa n = c :: q ∧ (c = 45 ∨ digC c = true) := by
  have := numHead (decDigits_all n.natAbs) (decDigits_ne _) [] (decide (n < 0))
  rw [List.append_nil] at this
  have e : itoa n = if decide (n < 0) = true then 45 :: decDigits n.natAbs else decDigits n.natAbs := by
    unfold itoa
    by_cases h : n < 0
    · simp [h]
    · simp only [h, decide_false, if_false, Bool.false_eq_true]
      congr 1
      omega
  rw [e]
  exact this
theorem decT_head (n : Int) : ∃ c q, decT n = c :: q ∧ (c = 45 ∨ digC c = true) := by
  have hd := pad5_dig (decDigits_all n.natAbs)
  have hl5 := pad5_len (decDigits n.natAbs)
  unfold decT
  generalize pad5 (decDigits n.natAbs) = p at hd hl5 ⊢
  have hw : (p.take (p.length - 4)).all digC = true := List.all_eq_true.2 fun c hc => List.all_eq_true.1 hd c (List.mem_of_mem_take hc)
  have hwne : p.take (p.length - 4) ≠ [] := by
    intro e
    have := congrArg List.length e
    rw [List.length_take] at this
    simp at this
    omega
  have := numHead hw hwne (46 :: fracT (p.drop (p.length - 4))) (decide (n < 0))
  obtain ⟨c, q, e, h⟩ := this
  refine ⟨c, q, ?_, h⟩
  rw [← e]
  by_cases h : n < 0
  · simp [h]
  · simp [h]
theorem num_heads {c : UInt8} (h : c = 45 ∨ digC c = true) : c ≠ 34 ∧ c ≠ 35 ∧ c ≠ 116 ∧ c ≠ 102 ∧ c ≠ 110 := by
  rcases h with rfl | h
  · decide
  · refine ⟨?_, ?_, ?_, ?_, ?_⟩ <;> (rintro rfl; revert h; decide)
/-- A text is read as the value whose text it is. -/
theorem readP_txt {k n : Int} {s : List UInt8} (h : mayL k n s = true) (h0 : -9223372036854775808 ≤ n) (h1 : n ≤ 9223372036854775807) : readP (txtL k n s) = .ok (k, n, s) := by
  rcases mayL_cases h with ⟨rfl, rfl, rfl⟩ | ⟨rfl, rfl⟩ | ⟨rfl, rfl⟩ | ⟨rfl, rfl, _, _⟩ | ⟨rfl, rfl, hn⟩ | ⟨rfl, rfl, _⟩
  · rfl
  · show readP (itoa n) = _
    obtain ⟨c, q, e, hc⟩ := itoa_head n
    have := numP_int n h0 h1
    rw [e] at this ⊢
    rw [readP_num (num_heads hc), this]
    rfl
  · show readP (decT n) = _
    obtain ⟨c, q, e, hc⟩ := decT_head n
    have := numP_dec n h0 h1
    rw [e] at this ⊢
    rw [readP_num (num_heads hc), this]
    rfl
  · show readP (34 :: (escT s ++ [34])) = _
    unfold readP
    simp only
    rw [innerL_esc]
  · rcases hn with rfl | rfl
    · rfl
    · rfl
  · rfl
/-! ### how long texts are, and of which bytes -/
theorem pri_dig {c : UInt8} (h : digC c = true) : priC c = true := by
  simp only [digC, priC, Bool.and_eq_true, decide_eq_true_eq] at *
  omega
theorem pri_low {c : UInt8} (h : lowC c = true) : priC c = true := by
  simp only [lowC, priC, Bool.and_eq_true, decide_eq_true_eq] at *
  omega
theorem pri_all {l : List UInt8} (h : l.all digC = true) : l.all priC = true := List.all_eq_true.2 fun c hc => pri_dig (List.all_eq_true.1 h c hc)
theorem escT_facts : ∀ (s : List UInt8), s.all priC = true → (escT s).length ≤ 2 * s.length ∧ (escT s).all priC = true
  | [], _ => ⟨by decide, rfl⟩
  | c :: s, h => by
    rw [List.all_cons, Bool.and_eq_true] at h
    obtain ⟨i1, i2⟩ := escT_facts s h.2
    rw [escT_cons, List.length_append, List.all_append, i2, List.length_cons]
    by_cases h1 : c = 92
    · rw [if_pos h1]
      exact ⟨by simp; omega, rfl⟩
    · rw [if_neg h1]
      by_cases h2 : c = 34
      · rw [if_pos h2]
        exact ⟨by simp; omega, rfl⟩
      · rw [if_neg h2]
        exact ⟨by simp; omega, by rw [List.all_cons, h.1]; rfl⟩
theorem nameL_facts {s : List UInt8} (h : nameL s = true) : 1 ≤ s.length ∧ s.length ≤ 12 ∧ s.all (fun b => lowC b || digC b) = true ∧ ∃ c r, s = c :: r ∧ lowC c = true := by
  cases s with
  | nil => cases h
  | cons c r =>
    unfold nameL at h
    simp only [Bool.and_eq_true, decide_eq_true_eq] at h
    refine ⟨by simp, by simp; omega, ?_, c, r, rfl, h.1.2⟩
    rw [List.all_cons, h.1.2, h.2]
    rfl
theorem txt_facts {k n : Int} {s : List UInt8} (h : mayL k n s = true) (h0 : -9223372036854775808 ≤ n) (h1 : n ≤ 9223372036854775807) : 1 ≤ (txtL k n s).length ∧ (txtL k n s).length ≤ 402 ∧ (txtL k n s).all priC = true := by
  rcases mayL_cases h with ⟨rfl, rfl, rfl⟩ | ⟨rfl, rfl⟩ | ⟨rfl, rfl⟩ | ⟨rfl, rfl, hl, hp⟩ | ⟨rfl, rfl, hn⟩ | ⟨rfl, rfl, hn⟩
  · decide
  · show 1 ≤ (itoa n).length ∧ (itoa n).length ≤ 402 ∧ (itoa n).all priC = true
    have hl := itoa_length_le n h0 h1
    obtain ⟨c, q, e, _⟩ := itoa_head n
    refine ⟨by rw [e]; simp, by omega, ?_⟩
    unfold itoa
    split
    · rw [List.all_cons, pri_all (decDigits_all _)]; rfl
    · exact pri_all (decDigits_all _)
  · show 1 ≤ (decT n).length ∧ (decT n).length ≤ 402 ∧ (decT n).all priC = true
    obtain ⟨c, q, e, _⟩ := decT_head n
    have hd := pad5_dig (decDigits_all n.natAbs)
    have hl5 := pad5_len (decDigits n.natAbs)
    have hl20 : (decDigits n.natAbs).length ≤ 20 := by
      rw [decDigits_length]
      exact nDigits_le20 _ (by omega)
    have hpl : (pad5 (decDigits n.natAbs)).length ≤ 25 := by
      unfold pad5
      rw [List.length_append, List.length_replicate]
      omega
    refine ⟨by rw [e]; simp, ?_, ?_⟩
    · unfold decT
      generalize pad5 (decDigits n.natAbs) = p at hd hl5 hpl ⊢
      have hf := (fracT_len (r := p.drop (p.length - 4)) (by rw [List.length_drop]; omega)).2
      simp only [List.length_append, List.length_cons, List.length_take]
      have : (if n < 0 then [(45 : UInt8)] else []).length ≤ 1 := by split <;> simp
      omega
    · unfold decT
      generalize pad5 (decDigits n.natAbs) = p at hd hl5 hpl ⊢
      have hw : (p.take (p.length - 4)).all digC = true := List.all_eq_true.2 fun c hc => List.all_eq_true.1 hd c (List.mem_of_mem_take hc)
      have hf : (p.drop (p.length - 4)).all digC = true := List.all_eq_true.2 fun c hc => List.all_eq_true.1 hd c (List.mem_of_mem_drop hc)
      rw [List.all_append, List.all_append, List.all_cons, pri_all hw, pri_all (fracT_dig hf)]
      have : (if n < 0 then [(45 : UInt8)] else []).all priC = true := by split <;> rfl
      rw [this]
      rfl
  · show 1 ≤ (quoT s).length ∧ (quoT s).length ≤ 402 ∧ (quoT s).all priC = true
    obtain ⟨i1, i2⟩ := escT_facts s hp
    unfold quoT
    rw [List.all_cons, List.all_append, i2]
    exact ⟨by simp, by simp; omega, rfl⟩
  · rcases hn with rfl | rfl
    · decide
    · decide
  · show 1 ≤ (35 :: s).length ∧ (35 :: s).length ≤ 402 ∧ (35 :: s).all priC = true
    obtain ⟨i1, i2, i3, _⟩ := nameL_facts hn
    refine ⟨by simp, by simp; omega, ?_⟩
    rw [List.all_cons]
    have : s.all priC = true := List.all_eq_true.2 fun c hc => by
      have := List.all_eq_true.1 i3 c hc
      rw [Bool.or_eq_true] at this
      rcases this with q | q
      · exact pri_low q
      · exact pri_dig q
    rw [this]
    rfl
/-! ### the text of any value; what any text says -/
def txtM (k n : Int) (s : List UInt8) : List UInt8 := if mayL k n s = true then txtL k n s else []
/-- Parse: a value, or why not. -/
def prsL (l : List UInt8) : Except Int (Int × Int × List UInt8) :=
  if 402 < l.length then .error 3 else if l = [] then .error 4 else
    match readP l with
    | .error e => .error e
    | .ok v => if txtM v.1 v.2.1 v.2.2 = l then .ok v else .error 4
theorem prsL_txt {k n : Int} {s : List UInt8} (h : mayL k n s = true) (h0 : -9223372036854775808 ≤ n) (h1 : n ≤ 9223372036854775807) : prsL (txtL k n s) = .ok (k, n, s) := by
  obtain ⟨f1, f2, _⟩ := txt_facts h h0 h1
  unfold prsL
  rw [if_neg (by omega), if_neg (by intro e; rw [e] at f1; simp at f1), readP_txt h h0 h1]
  simp only
  unfold txtM
  rw [if_pos h, if_pos rfl]
/-- What is read is the text's value. -/
theorem prsL_ok {l : List UInt8} {k n : Int} {s : List UInt8} (h : prsL l = .ok (k, n, s)) : mayL k n s = true ∧ txtL k n s = l ∧ l ≠ [] ∧ l.length ≤ 402 := by
  unfold prsL at h
  by_cases h4 : 402 < l.length
  · rw [if_pos h4] at h; cases h
  rw [if_neg h4] at h
  by_cases hl : l = []
  · rw [if_pos hl] at h; cases h
  rw [if_neg hl] at h
  cases hr : readP l with
  | error e => rw [hr] at h; cases h
  | ok v =>
    rw [hr] at h
    simp only at h
    by_cases ht : txtM v.1 v.2.1 v.2.2 = l
    · rw [if_pos ht] at h
      injection h with h
      subst h
      unfold txtM at ht
      by_cases hm : mayL k n s = true
      · simp only [if_pos hm] at ht
        exact ⟨hm, ht, hl, by omega⟩
      · simp only [if_neg hm] at ht
        exact absurd ht.symm hl
    · rw [if_neg ht] at h; cases h
end Go.Proofs.YtgfakdobajgnfaaGreatDoor

/- Values and their texts: a blank ahead, kinds by texts; no program is named. -/
namespace Go.Proofs.YtgfakdobajgnfaaGreatDoor
open Go Go.Lib

/-! ### a blank or a nought ahead -/
theorem numP_blank (l : List UInt8) : numP (32 :: l) = .error 4 := by
  have h1 : ¬ ((32 : UInt8) :: l).head? = some 45 := by simp
  have h2 : digL (cut (32 :: l) [46]).1 = false := by
    rcases split_one 46 (32 :: l) with hn | ⟨a, r, e, hn⟩
    · rw [cut_one_none hn]; rfl
    · rw [e, cut_one_some a r hn]
      cases a with
      | nil => simp at e
      | cons b a =>
        rw [List.cons_append] at e
        injection e with e1 e2
        subst e1
        rfl
  unfold numP
  simp only [if_neg h1, h2, Bool.not_false, Bool.true_or, if_true]
theorem numP_nought {l : List UInt8} (h1 : l ≠ []) (h2 : l.head? ≠ some 46) : numP (48 :: l) = .error 4 := by
  have h0 : ¬ ((48 : UInt8) :: l).head? = some 45 := by simp
  obtain ⟨b, r, rfl⟩ := List.exists_cons_of_ne_nil h1
  have hb : b ≠ 46 := by simpa using h2
  have hz : (decide (1 < (cut (48 :: b :: r) [46]).1.length) && (cut (48 :: b :: r) [46]).1.head? == some 48) = true := by
    rcases split_one 46 (48 :: b :: r) with hn | ⟨a, q, e, hn⟩
    · rw [cut_one_none hn]; simp
    · rw [e, cut_one_some a q hn]
      match a, e with
      | [], e => simp at e
      | [x], e =>
        simp only [List.cons_append, List.nil_append, List.cons.injEq] at e
        exact absurd e.2.1 hb
      | x :: y :: a, e =>
        simp only [List.cons_append, List.cons.injEq] at e
        rw [← e.1]
        simp
  unfold numP
  simp only [if_neg h0, hz, Bool.or_true, Bool.true_or, if_true]
theorem numP_point (l : List UInt8) : numP (46 :: l) = .error 4 := by
  have h1 : ¬ ((46 : UInt8) :: l).head? = some 45 := by simp
  have h2 := cut_one_some (c := 46) [] l (by simp)
  rw [List.nil_append] at h2
  unfold numP
  simp only [if_neg h1, h2]
  rfl
theorem prsL_num_err {c : UInt8} {l : List UInt8} (h : c ≠ 34 ∧ c ≠ 35 ∧ c ≠ 116 ∧ c ≠ 102 ∧ c ≠ 110) (he : numP (c :: l) = .error 4) : ∃ e, prsL (c :: l) = .error e ∧ (e = 3 ∨ e = 4) := by
  unfold prsL
  by_cases h4 : 402 < (c :: l).length
  · exact ⟨3, by rw [if_pos h4], .inl rfl⟩
  · refine ⟨4, ?_, .inr rfl⟩
    rw [if_neg h4, if_neg (by simp), readP_num h, he]
    rfl
theorem prsL_blank (l : List UInt8) : ∃ e, prsL (32 :: l) = .error e ∧ (e = 3 ∨ e = 4) := prsL_num_err (by decide) (numP_blank l)
theorem prsL_nought {l : List UInt8} {v : Int × Int × List UInt8} (h : prsL l = .ok v) : ∃ e, prsL (48 :: l) = .error e ∧ (e = 3 ∨ e = 4) := by
  obtain ⟨_, _, hl, _⟩ := prsL_ok (k := v.1) (n := v.2.1) (s := v.2.2) h
  refine prsL_num_err (by decide) (numP_nought hl fun e => ?_)
  obtain ⟨b, r, rfl⟩ := List.exists_cons_of_ne_nil hl
  simp only [List.head?_cons, Option.some.injEq] at e
  subst e
  obtain ⟨e, he, _⟩ := prsL_num_err (c := 46) (l := r) (by decide) (numP_point r)
  rw [h] at he
  cases he
theorem numP_errs {l : List UInt8} {q : Int} (h : numP l = .error q) : q = 4 ∨ q = 9 := by
  unfold numP at h
  simp only at h
  generalize cut (if l.head? = some 45 then l.tail else l) [46] = c at h
  by_cases hc : ((!digL c.1 || (decide (1 < c.1.length) && c.1.head? == some 48)) || (c.2.2 && (!digL c.2.1 || decide (4 < c.2.1.length)))) = true
  · rw [if_pos hc] at h
    injection h with h
    exact .inl h.symm
  · rw [if_neg hc] at h
    generalize parseIntB 64 _ = z at h
    cases z
    case ok n => cases h
    all_goals (injection h with h; exact .inr h.symm)
/-- The errors. -/
theorem prsL_err {l : List UInt8} {e : Int} (h : prsL l = .error e) : e = 3 ∨ e = 4 ∨ e = 9 := by
  unfold prsL at h
  by_cases h4 : 402 < l.length
  · rw [if_pos h4] at h; injection h with h; exact .inl h.symm
  rw [if_neg h4] at h
  by_cases hl : l = []
  · rw [if_pos hl] at h; injection h with h; exact .inr (.inl h.symm)
  rw [if_neg hl] at h
  cases hr : readP l with
  | ok v =>
    rw [hr] at h
    simp only at h
    split at h
    · cases h
    · injection h with h; exact .inr (.inl h.symm)
  | error q =>
    rw [hr] at h
    injection h with h
    subst h
    have hnum : ∀ x, numP x = .error q → q = 4 ∨ q = 9 := fun x hx => numP_errs hx
    unfold readP at hr
    split at hr
    · cases hr
    · cases hr
    · split at hr
      · cases hr
      · injection hr with hr; exact .inr (.inl hr.symm)
    · split at hr
      · cases hr
      · injection hr with hr; exact .inr (.inl hr.symm)
    · split at hr
      · cases hr
      · injection hr with hr; exact .inr (.inl hr.symm)
    · cases hq : numP l with
      | ok p => rw [hq] at hr; cases hr
      | error z =>
        rw [hq] at hr
        injection hr with hr
        subst hr
        exact .inr (hnum l hq)
/-! ### a value's kind by its text -/
def kindL (l : List UInt8) : Int :=
  if l.head? = some 34 then 3 else if l.head? = some 35 then 5 else if l = [110, 117, 108, 108] then 0 else if l = [116, 114, 117, 101] ∨ l = [102, 97, 108, 115, 101] then 4 else if contains l [46] = true then 2 else 1
theorem itoa_nopoint (n : Int) : contains (itoa n) [46] = false := by
  have : (46 : UInt8) ∉ itoa n := by
    unfold itoa
    split
    · rw [List.mem_cons]
      rintro (q | q)
      · revert q; decide
      · exact not_dig (decDigits_all _) rfl q
    · exact not_dig (decDigits_all _) rfl
  unfold contains
  rw [index_one_none this]
  rfl
theorem decT_point (n : Int) : contains (decT n) [46] = true := by
  have hd := pad5_dig (decDigits_all n.natAbs)
  unfold decT
  generalize pad5 (decDigits n.natAbs) = p at hd ⊢
  have hw : (p.take (p.length - 4)).all digC = true := List.all_eq_true.2 fun c hc => List.all_eq_true.1 hd c (List.mem_of_mem_take hc)
  have hn : (46 : UInt8) ∉ (if n < 0 then [(45 : UInt8)] else []) ++ p.take (p.length - 4) := by
    rw [List.mem_append]
    rintro (q | q)
    · split at q
      · simp at q
      · simp at q
    · exact not_dig hw rfl q
  rw [← List.append_assoc]
  unfold contains
  rw [index_one_some _ _ hn, decide_eq_true_eq]
  omega
theorem kind_num {c : UInt8} {l q : List UInt8} (e : l = c :: q) (hc : c = 45 ∨ digC c = true) : kindL l = if contains l [46] = true then 2 else 1 := by
  obtain ⟨h1, h2, h3, h4, h5⟩ := num_heads hc
  subst e
  unfold kindL
  rw [if_neg (by simpa using h1), if_neg (by simpa using h2), if_neg (by simp [h5]), if_neg (by simp [h3, h4])]
theorem kindL_txt {k n : Int} {s : List UInt8} (h : mayL k n s = true) : kindL (txtL k n s) = k := by
  rcases mayL_cases h with ⟨rfl, rfl, rfl⟩ | ⟨rfl, rfl⟩ | ⟨rfl, rfl⟩ | ⟨rfl, rfl, hl, hp⟩ | ⟨rfl, rfl, hn⟩ | ⟨rfl, rfl, hn⟩
  · rfl
  · show kindL (itoa n) = 1
    obtain ⟨c, q, e, hc⟩ := itoa_head n
    rw [kind_num e hc, itoa_nopoint]
    rfl
  · show kindL (decT n) = 2
    obtain ⟨c, q, e, hc⟩ := decT_head n
    rw [kind_num e hc, decT_point]
    rfl
  · rfl
  · rcases hn with rfl | rfl
    · rfl
    · rfl
  · rfl
/-- Two values have one text just if they are the same. -/
theorem txtL_inj {k n k' n' : Int} {s s' : List UInt8} (h : mayL k n s = true) (h0 : -9223372036854775808 ≤ n) (h1 : n ≤ 9223372036854775807) (h' : mayL k' n' s' = true) (h0' : -9223372036854775808 ≤ n') (h1' : n' ≤ 9223372036854775807)
    (e : txtL k n s = txtL k' n' s') : k = k' ∧ n = n' ∧ s = s' := by
  have e1 := prsL_txt h h0 h1
  rw [e, prsL_txt h' h0' h1'] at e1
  injection e1 with e1
  simp only [Prod.mk.injEq] at e1
  exact ⟨e1.1.symm, e1.2.1.symm, e1.2.2.symm⟩
end Go.Proofs.YtgfakdobajgnfaaGreatDoor
