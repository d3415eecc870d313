/- vtext: Parse. -/
import Derived.Test.YtkjndabbkfbkaaaGreatDoorVt5
import Derived.Laws.EntriesVeiled
namespace Go.Proofs.YtkjndabbkfbkaaaGreatDoor
open Go Go.RowKit Go.Lib Go.Sort Go.Shelf

theorem readP_word {c : UInt8} {r : List UInt8} (h : c = 116 ∨ c = 102 ∨ c = 110) : readP (c :: r) = wordP (c :: r) := by
  unfold wordP
  rcases h with rfl | rfl | rfl
  · by_cases h : r = [114, 117, 101]
    · subst h; rfl
    · rw [if_neg (by simpa using h), if_neg (by simp), if_neg (by simp)]
      show (if r = [114, 117, 101] then _ else _) = _
      rw [if_neg h]
  · by_cases h : r = [97, 108, 115, 101]
    · subst h; rfl
    · rw [if_neg (by simp), if_neg (by simpa using h), if_neg (by simp)]
      show (if r = [97, 108, 115, 101] then _ else _) = _
      rw [if_neg h]
  · by_cases h : r = [117, 108, 108]
    · subst h; rfl
    · rw [if_neg (by simp), if_neg (by simp), if_neg (by simpa using h)]
      show (if r = [117, 108, 108] then _ else _) = _
      rw [if_neg h]
theorem parseIntB_bounds {l : List UInt8} {n : Int} (h : parseIntB 64 l = .ok n) : -9223372036854775808 ≤ n ∧ n ≤ 9223372036854775807 := by
  have e63 : (2 : Nat) ^ (64 - 1) = 9223372036854775808 := by decide
  cases l with
  | nil => cases h
  | cons c r =>
    unfold parseIntB at h
    simp only [e63] at h
    generalize parseUintB 64 _ = z at h
    cases z
    case range => cases h
    case ok u =>
      simp only at h
      split at h
      · cases h
      · split at h
        · cases h
        · injection h with h
          subst h
          split <;> omega
    · cases h
theorem innerL_len (l : List UInt8) : (innerL l).length ≤ l.length := by
  match l with
  | [] => simp [innerL]
  | [_] => simp [innerL]
  | c :: y :: r =>
    have h1 := innerL_len r
    have h2 := innerL_len (y :: r)
    rw [innerL]
    split <;> simp only [List.length_cons] at * <;> omega
/-- What is read is a value whose number is an int64; an error is one of two. -/
def FitR (m : Nat) : Except Int (Int × Int × List UInt8) → Prop
  | .ok p => -9223372036854775808 ≤ p.2.1 ∧ p.2.1 ≤ 9223372036854775807 ∧ p.2.2.length ≤ m
  | .error q => q = 4 ∨ q = 9
theorem numP_fit (m : Nat) (x : List UInt8) : FitR m ((numP x).map fun p => (p.1, p.2, ([] : List UInt8))) := by
  cases hx : numP x with
  | error q => exact numP_errs hx
  | ok p =>
    have hp : -9223372036854775808 ≤ p.2 ∧ p.2 ≤ 9223372036854775807 := by
      unfold numP at hx
      simp only at hx
      generalize cut (if x.head? = some 45 then x.tail else x) [46] = c at hx
      by_cases hc : ((!digL c.1 || (decide (1 < c.1.length) && c.1.head? == some 48)) || (c.2.2 && (!digL c.2.1 || decide (4 < c.2.1.length)))) = true
      · rw [if_pos hc] at hx
        cases hx
      · rw [if_neg hc] at hx
        generalize hz : parseIntB 64 _ = z at hx
        cases z
        case ok n =>
          injection hx with hx
          subst hx
          exact parseIntB_bounds hz
        all_goals cases hx
    exact ⟨hp.1, hp.2, Nat.zero_le _⟩
theorem readP_fit (l : List UInt8) : FitR l.length (readP l) := by
  unfold readP
  split
  · rename_i r
    have := innerL_len r
    refine ⟨?_, ?_, ?_⟩
    · show (-9223372036854775808 : Int) ≤ 0; omega
    · show (0 : Int) ≤ 9223372036854775807; omega
    · show (innerL r).length ≤ _
      rw [List.length_cons]
      omega
  · refine ⟨?_, ?_, ?_⟩
    · show (-9223372036854775808 : Int) ≤ 0; omega
    · show (0 : Int) ≤ 9223372036854775807; omega
    · exact Nat.le_succ _
  · split
    · exact ⟨by decide, by decide, Nat.zero_le _⟩
    · exact .inl rfl
  · split
    · exact ⟨by decide, by decide, Nat.zero_le _⟩
    · exact .inl rfl
  · split
    · exact ⟨by decide, by decide, Nat.zero_le _⟩
    · exact .inl rfl
  · exact numP_fit _ _
/-- Which function reads a text. -/
def rdFn (c : UInt8) : Nat := if c = 34 then 150 else if c = 35 then 149 else if c = 116 ∨ c = 102 ∨ c = 110 then 151 else 131
def inRd (c : UInt8) : Bool := decide (c = 34 ∨ c = 35 ∨ c = 116 ∨ c = 102 ∨ c = 110)
theorem look_rdrs (c : UInt8) : look rdrs (c.toNat : Int) = if inRd c then some (.agg #[.func (.func (rdFn c)) #[] #[]]) else none := by
  have key : ∀ c : UInt8, look rdrs (c.toNat : Int) = if inRd c then some (.agg #[.func (.func (rdFn c)) #[] #[]]) else none := by
    intro c
    by_cases h1 : c = 34
    · subst h1; rfl
    by_cases h2 : c = 35
    · subst h2; rfl
    by_cases h3 : c = 116
    · subst h3; rfl
    by_cases h4 : c = 102
    · subst h4; rfl
    by_cases h5 : c = 110
    · subst h5; rfl
    have hn : inRd c = false := by simp [inRd, h1, h2, h3, h4, h5]
    rw [hn]
    have e : ∀ k : UInt8, c ≠ k → (((k.toNat : Int)) == (c.toNat : Int)) = false := fun k hk => by
      have : k.toNat ≠ c.toNat := fun q => hk (UInt8.toNat_inj.1 q).symm
      simp
      omega
    have e1 := e 34 h1
    have e2 := e 35 h2
    have e3 := e 116 h3
    have e4 := e 102 h4
    have e5 := e 110 h5
    unfold look rdrs
    simp only [List.find?_cons]
    rw [show ((34 : Int) == (c.toNat : Int)) = false from e1, show ((35 : Int) == (c.toNat : Int)) = false from e2, show ((116 : Int) == (c.toNat : Int)) = false from e3, show ((102 : Int) == (c.toNat : Int)) = false from e4, show ((110 : Int) == (c.toNat : Int)) = false from e5]
    rfl
  exact key c
theorem read_any (s : ByteArray) (w : World) (h1 : 0 < s.size) (hs : s.size ≤ 402) (hR : Rd w) : Calls Tryz.prog (rdFn s[0]) #[.string s] w (RdPost w (readP (dl s))) := by
  have hd : ∃ r, dl s = s[0] :: r := by
    have l1 : 0 < (dl s).length := by rw [dl_size]; omega
    refine ⟨(dl s).drop 1, ?_⟩
    have := List.drop_eq_getElem_cons l1
    rw [List.drop_zero] at this
    exact this
  obtain ⟨r, hr⟩ := hd
  obtain ⟨c, hc⟩ : ∃ c, s[0] = c := ⟨_, rfl⟩
  rw [hc] at hr ⊢
  unfold rdFn
  by_cases a1 : c = 34
  · subst a1
    rw [if_pos rfl]
    refine (vtext_text s w (by omega) hs).mono ?_
    rintro e w' ⟨rfl, hb⟩
    rw [hr]
    exact ⟨hb, rfl⟩
  rw [if_neg a1]
  by_cases a2 : c = 35
  · subst a2
    rw [if_pos rfl]
    refine (name_any s w (by omega) hs).mono ?_
    rintro e w' ⟨rfl, hb⟩
    rw [hr]
    exact ⟨hb, rfl⟩
  rw [if_neg a2]
  by_cases a3 : c = 116 ∨ c = 102 ∨ c = 110
  · rw [if_pos a3, hr, readP_word a3, ← hr]
    exact word_any s w
  · rw [if_neg a3, hr, readP_num ⟨a1, a2, fun e => a3 (.inl e), fun e => a3 (.inr (.inl e)), fun e => a3 (.inr (.inr e))⟩, ← hr]
    refine (number_any s w hs hR).mono ?_
    rintro e w' ⟨hb, he⟩
    refine ⟨hb, ?_⟩
    cases hn : numP (dl s) with
    | ok p => rw [hn] at he; exact he
    | error q => rw [hn] at he; exact he

theorem bcells {W w1 : World} (hb : Below W.heap.size W w1) : (∀ b o, b < W.heap.size → w1.cell? ⟨b, o, none⟩ = W.cell? ⟨b, o, none⟩) ∧ (∀ b o, b < W.heap.size → w1.frozen? ⟨b, o, none⟩ = W.frozen? ⟨b, o, none⟩) :=
  ⟨fun b o h => hb.cell (p := ⟨b, o, none⟩) h, fun b o h => hb.frozen (p := ⟨b, o, none⟩) h⟩
/-- Behind the look-up: the result, and the reader in a box. -/
structure PSt (w V : World) (p : Nat) (fv : Value) : Prop where
  res : V.heap[w.heap.size]? = some (.cells #[.int .u8 0, .int .i64 0, .string ⟨#[]⟩] 32 (0, 0))
  box : V.heap[p]? = some (.cells #[fv] 163 (0, 0))
  lt : w.heap.size < p
  low : Below w.heap.size w V
theorem PSt.below {w V V' : World} {p : Nat} {fv : Value} (h : PSt w V p fv) (hb : Below V.heap.size V V') : PSt w V' p fv :=
  ⟨(hb.block _ (lt_of_block h.res)).trans h.res, (hb.block _ (lt_of_block h.box)).trans h.box, h.lt, h.low.trans (hb.mono h.low.size)⟩
theorem PSt.cells {w V : World} {p : Nat} {fv : Value} (h : PSt w V p fv) : V.cell? ⟨w.heap.size, 0, none⟩ = some (.int .u8 0) ∧ V.cell? ⟨w.heap.size, 1, none⟩ = some (.int .i64 0) ∧ V.cell? ⟨w.heap.size, 2, none⟩ = some (.string ⟨#[]⟩) ∧
    (∀ i, V.frozen? ⟨w.heap.size, i, none⟩ = false) ∧ V.cell? ⟨p, 0, none⟩ = some fv ∧ V.frozen? ⟨p, 0, none⟩ = false ∧ w.heap.size < V.heap.size ∧ p < V.heap.size :=
  ⟨by simp [World.cell?, h.res], by simp [World.cell?, h.res], by simp [World.cell?, h.res], fun i => by simp [World.frozen?, h.res], by simp [World.cell?, h.box], by simp [World.frozen?, h.box], lt_of_block h.res, lt_of_block h.box⟩
theorem PSt.store {w V : World} {p : Nat} {fv : Value} (h : PSt w V p fv) (u : Value) : PSt w (V.setCell ⟨p, 0, none⟩ u) p u :=
  ⟨((Only.refl [p] V).setCell (.inl (by simp)) _ |>.block _ (lt_of_block h.res) (by simp; have := h.lt; omega)).trans h.res, by rw [setCell_heap h.box]; rfl, h.lt, h.low.setCell (by have := h.lt; simp; omega) _⟩
theorem PSt.after {w W0 V : World} (hbx : W0.heap[w.heap.size]? = some (.cells #[.int .u8 0, .int .i64 0, .string ⟨#[]⟩] 32 (0, 0))) (hB : Below w.heap.size w W0) (hz : W0.heap.size = w.heap.size + 1) (hb : Below W0.drew.heap.size W0.drew V) (fv : Value) :
    PSt w (V.alloc (.cells #[fv] 163)) V.heap.size fv := by
  have hs : W0.heap.size ≤ V.heap.size := hb.size
  have h1 := (hb.block w.heap.size (by show w.heap.size < W0.heap.size; omega)).trans hbx
  have hbA : Below V.heap.size V (V.alloc (.cells #[fv] 163)) := (Below.refl V.heap.size V).alloc (Nat.le_refl _) _
  have hb' : Below w.heap.size w V := hB.trans (⟨hb.os, hb.tape, hb.output, hb.size, fun k hk => hb.block k (by show k < W0.heap.size; omega)⟩ : Below w.heap.size W0 V)
  exact ⟨(hbA.block _ (by omega)).trans h1, (MapKept.heap_alloc V _).1, by omega, hb'.trans (hbA.mono (by omega))⟩
theorem PSt.before {w W0 V : World} (hbx : W0.heap[w.heap.size]? = some (.cells #[.int .u8 0, .int .i64 0, .string ⟨#[]⟩] 32 (0, 0))) (hB : Below w.heap.size w W0) (hz : W0.heap.size = w.heap.size + 1)
    (hb : Below (W0.alloc (.cells #[.nilFunc] 163)).drew.heap.size (W0.alloc (.cells #[.nilFunc] 163)).drew V) (fv : Value) : PSt w (V.setCell ⟨W0.heap.size, 0, none⟩ fv) W0.heap.size fv := by
  have hbA : Below W0.heap.size W0 (W0.alloc (.cells #[.nilFunc] 163)) := (Below.refl W0.heap.size W0).alloc (Nat.le_refl _) _
  have hzA : (W0.alloc (.cells #[.nilFunc] 163)).drew.heap.size = W0.heap.size + 1 := by show (W0.alloc _).heap.size = _; simp
  have h1 := (hb.block w.heap.size (by rw [hzA]; omega)).trans ((hbA.block _ (by omega)).trans hbx)
  have h2 := (hb.block W0.heap.size (by rw [hzA]; omega)).trans (MapKept.heap_alloc W0 (.cells #[.nilFunc] 163)).1
  have hb' : Below w.heap.size w V := (hB.trans (hbA.mono (by omega))).trans (⟨hb.os, hb.tape, hb.output, hb.size, fun k hk => hb.block k (by rw [hzA]; omega)⟩ : Below w.heap.size (W0.alloc (.cells #[.nilFunc] 163)) V)
  have h : PSt w V W0.heap.size .nilFunc := ⟨h1, h2, by omega, hb'⟩
  exact h.store fv
/-- What Parse answers. -/
def PrsPost (w : World) (r : Except Int (Int × Int × List UInt8)) (e : Ending) (w' : World) : Prop :=
  Below w.heap.size w w' ∧ match r with
    | .ok p => e = .returned (.tuple #[.agg #[.int .u8 p.1, .int .i64 p.2.1, .string ⟨p.2.2.toArray⟩], .int .i64 0])
    | .error q => e = .returned (.tuple #[.agg #[.int .u8 0, .int .i64 0, .string ⟨#[]⟩], .int .i64 q])

set_option maxRecDepth 100000 in
set_option maxHeartbeats 4000000 in
theorem parse_any (s : ByteArray) (w : World) (hs : s.size ≤ 9223372036854775807) (hR : Rd w) :
    Calls Tryz.prog 98 #[.string s] w (PrsPost w (prsL (dl s))) := by
  obtain ⟨W0, hW0⟩ : ∃ W0, w.alloc (.cells #[.int .u8 0, .int .i64 0, .string ⟨#[]⟩] 32) = W0 := ⟨_, rfl⟩
  have hb0 : Below w.heap.size w W0 := by rw [← hW0]; exact (Below.refl w.heap.size w).alloc (Nat.le_refl _) _
  have hbx := (MapKept.heap_alloc w (.cells #[.int .u8 0, .int .i64 0, .string ⟨#[]⟩] 32)).1
  have hz0 : W0.heap.size = w.heap.size + 1 := by rw [← hW0]; simp
  rw [hW0] at hbx
  have HW0 := hide hW0
  have a0 : W0.cell? ⟨w.heap.size, 0, none⟩ = some (.int .u8 0) := by simp [World.cell?, hbx]
  have a1 : W0.cell? ⟨w.heap.size, 1, none⟩ = some (.int .i64 0) := by simp [World.cell?, hbx]
  have a2 : W0.cell? ⟨w.heap.size, 2, none⟩ = some (.string ⟨#[]⟩) := by simp [World.cell?, hbx]
  have f0 : ∀ i, W0.frozen? ⟨w.heap.size, i, none⟩ = false := fun i => by simp [World.frozen?, hbx]
  have HB := hide hb0
  have Hbx := hide hbx
  have Hz0 := hide hz0
  clear hW0 hb0 hbx hz0
  have hsz := dl_size s
  by_cases h402 : 402 < s.size
  · have hp : prsL (dl s) = .error 3 := by unfold prsL; rw [if_pos (by omega)]
    have i1 : (402 : Int) < (s.size : Int) := by omega
    have Hp := hide hp
    clear hp hsz h402 hR
    go_enter Tryz.func98, Tryz.ntmps98
    go_upto_region 1 with fail
    rw [HW0.out]
    go_wp2
    refine bodyPost_ret (v := .tuple #[.agg #[.int .u8 0, .int .i64 0, .string ⟨#[]⟩], .int .i64 3]) (by simp [results, Tryz.results98, go_sem, *]) rfl ?_
    rw [Hp.out]
    exact ⟨((HB.out.setCell (by simp) _).setCell (by simp) _).setCell (by simp) _, rfl⟩
  have i1 : (s.size : Int) ≤ 402 := by omega
  by_cases h0 : s.size = 0
  · have e : s = ⟨#[]⟩ := dl_inj (List.eq_nil_of_length_eq_zero (by omega))
    subst e
    clear hsz h402 hR h0 i1
    go_enter Tryz.func98, Tryz.ntmps98
    go_upto_region 1 with fail
    rw [HW0.out]
    go_wp2
    refine bodyPost_ret (v := .tuple #[.agg #[.int .u8 0, .int .i64 0, .string ⟨#[]⟩], .int .i64 4]) (by simp [results, Tryz.results98, go_sem, *]) rfl ?_
    exact ⟨((HB.out.setCell (by simp) _).setCell (by simp) _).setCell (by simp) _, rfl⟩
  have hpos : 0 < s.size := by omega
  have i0 : (0 : Int) < (s.size : Int) := by omega
  have hne := isEmpty_ff hpos
  have hne2 := toList_ne hpos
  have hP : prsL (dl s) = match readP (dl s) with
      | .error e => .error e
      | .ok v => if txtM v.1 v.2.1 v.2.2 = dl s then .ok v else .error 4 := by
    unfold prsL
    rw [if_neg (by omega), if_neg (fun e => by rw [e] at hsz; simp at hsz; omega)]
    cases readP (dl s) <;> rfl
  have HP := hide hP
  have HR0 := hide hR
  have hrd := fun V (hV : Below w.heap.size w V) => read_any s V hpos (by omega) (hR.below hV)
  have hlk := look_rdrs s[0]
  have Hrd := hide hrd
  have Hlk := hide hlk
  have Hmap := hide fun (V : World) (b : Nat) (hm : KMap .u8 V b rdrs) => run_lookup (P := Tryz.prog) (t := 165) Tryz.underlying165 Tryz.underlying5 hm (Tryz.zeroValue163 V) (s[0].toNat : Int)
  clear hP hR hrd hlk hsz h402 h0
  obtain ⟨fn, hfn⟩ : ∃ fn, rdFn s[0] = fn := ⟨_, rfl⟩
  rw [hfn] at Hrd
  obtain ⟨ir, hir⟩ : ∃ ir, inRd s[0] = ir := ⟨_, rfl⟩
  rw [hir, hfn] at Hlk
  have Hnum : Hid ((ir = false ∧ fn = 131) ∨ (ir = true ∧ (fn = 150 ∨ fn = 149 ∨ fn = 151))) := hide (by
    rw [← hfn, ← hir]
    unfold rdFn inRd
    by_cases h1 : s[0] = 34
    · exact .inr ⟨by simp [h1], .inl (by rw [if_pos h1])⟩
    rw [if_neg h1]
    by_cases h2 : s[0] = 35
    · exact .inr ⟨by simp [h2], .inr (.inl (by rw [if_pos h2]))⟩
    rw [if_neg h2]
    by_cases h3 : s[0] = 116 ∨ s[0] = 102 ∨ s[0] = 110
    · exact .inr ⟨by simp [h3], .inr (.inr (by rw [if_pos h3]))⟩
    · exact .inl ⟨by simp [h1, h2, h3], by rw [if_neg h3]⟩)
  clear hfn hir
  go_enter Tryz.func98, Tryz.ntmps98
  go_upto_region 1 with fail
  rw [HW0.out]
  go_upto_region 5 with fail
  go_cut [4, 5] from 17 to 24 (fun u4 u5 wx => ∃ p : Nat, u4 = .pointer (some ⟨p, 0, none⟩) ∧ u5 = .bool ir ∧ Hid (PSt w wx p (if ir then .func (.func fn) #[] #[] else .nilFunc)))
  case first =>
    cases ir with
    | true =>
      simp only [if_true] at Hlk
      go_region_with ((go_at_call 130; refine (readers_any _).mono ?_; rintro e V ⟨b, rfl, hm, hb⟩; have hl := Hmap.out V b hm; have hl2 := Hmap.out (V.alloc (.cells #[.nilFunc] 163)) b (hm.only ((Only.refl [] V).alloc _) (by simp)); rw [Hlk.out] at hl hl2; simp only [looked] at hl hl2; obtain ⟨hc, hf⟩ := bcells hb; have Hb := hide hb; clear hb hm))
      all_goals
        go_wp2
        go_meet
        case rel =>
          simp only [if_true]
          first
            | exact ⟨_, rfl, trivial, PSt.after Hbx.out HB.out Hz0.out Hb.out _⟩
            | exact ⟨_, rfl, trivial, PSt.before Hbx.out HB.out Hz0.out Hb.out _⟩
    | false =>
      simp only [Bool.false_eq_true, if_false] at Hlk
      go_region_with ((go_at_call 130; refine (readers_any _).mono ?_; rintro e V ⟨b, rfl, hm, hb⟩; have hl := Hmap.out V b hm; have hl2 := Hmap.out (V.alloc (.cells #[.nilFunc] 163)) b (hm.only ((Only.refl [] V).alloc _) (by simp)); rw [Hlk.out] at hl hl2; simp only [looked] at hl hl2; obtain ⟨hc, hf⟩ := bcells hb; have Hb := hide hb; clear hb hm))
      all_goals
        go_wp2
        go_meet
        case rel =>
          simp only [Bool.false_eq_true, if_false]
          first
            | exact ⟨_, rfl, trivial, PSt.after Hbx.out HB.out Hz0.out Hb.out _⟩
            | exact ⟨_, rfl, trivial, PSt.before Hbx.out HB.out Hz0.out Hb.out _⟩
  case rest =>
    obtain ⟨p, rfl, rfl, hq⟩ := hcut
    obtain ⟨r, hr⟩ : ∃ r, readP (dl s) = r := ⟨_, rfl⟩
    have hf1 := readP_fit (dl s)
    rw [hr] at HP Hrd hf1
    have Hf1 := hide hf1
    have Hr := hide hr
    clear hr hf1 Hmap Hlk a0 a1 a2 f0 Hbx Hz0 HW0 HB
    obtain ⟨V1, hV1, hh⟩ : ∃ V1, (if ir then V1 = wc else V1 = wc.setCell ⟨p, 0, none⟩ (.func (.func fn) #[] #[])) ∧ Hid (PSt w V1 p (.func (.func fn) #[] #[])) := by
      cases ir with
      | true => exact ⟨wc, rfl, by simpa using hq⟩
      | false => exact ⟨_, rfl, hide (hq.out.store _)⟩
    have Hcall := hide (Hrd.out V1 hh.out.low)
    obtain ⟨b0, b1, b2, bf, b3, bf3, _, _⟩ := hh.out.cells
    obtain ⟨c0, c1, c2, cf, c3, cf3, _, _⟩ := hq.out.cells
    have HV1 := hide hV1
    clear Hrd hV1
    rcases Hnum.out with ⟨rfl, rfl⟩ | ⟨rfl, rfl | rfl | rfl⟩
    case inl =>
      simp only [Bool.false_eq_true, if_false] at HV1 c3
      go_upto_region 8 with fail
      rw [← HV1.out]
      clear HV1 c0 c1 c2 cf c3 cf3 hq
      go_wp2_with fail
      (with_reducible refine Hcall.out.mono ?_)
      rintro e V2 ⟨hb, he⟩
      have h2 := hh.out.below hb
      have hR2 := HR0.out.below h2.low
      clear Hcall b0 b1 b2 bf b3 bf3 hb
      obtain ⟨b0, b1, b2, bf, _, _, hlt, _⟩ := h2.cells
      cases r with
      | error q =>
        simp only at he HP
        obtain ⟨ek, en, es, rfl⟩ := he
        have hq0 : (q == 0) = false := by
          have := Hf1.out
          unfold FitR at this
          simp
          omega
        have HB := hide h2.low
        have HP := hide HP.out
        clear h2 hR2 Hf1 Hr
        go_wp2
        refine bodyPost_ret (v := .tuple #[.agg #[.int .u8 0, .int .i64 0, .string ⟨#[]⟩], .int .i64 q]) (by simp [results, Tryz.results98, go_sem, *]) rfl ?_
        rw [HP.out]
        exact ⟨(((HB.out.setCell (by simp) _).setCell (by simp) _).setCell (by simp) _).alloc (by simp [World.setCell]; omega) _, rfl⟩
      | ok p2 =>
        obtain ⟨vk, vn, vs⟩ := p2
        simp only at he HP
        subst he
        have hfit : (⟨vk, vn, ⟨vs.toArray⟩⟩ : Vl).fit := by
          obtain ⟨h1, h2, h3⟩ := Hf1.out
          refine ⟨?_, h1, h2⟩
          rw [← dl_size, dl_mk]
          rw [dl_size] at h3
          exact Nat.le_trans h3 hs
        obtain ⟨W3, hW3⟩ : ∃ W3, V2.alloc (.cells #[.int .u8 vk, .int .i64 vn, .string ⟨vs.toArray⟩] 32) = W3 := ⟨_, rfl⟩
        have hb3 : Below V2.heap.size V2 W3 := by rw [← hW3]; exact (Below.refl V2.heap.size V2).alloc (Nat.le_refl _) _
        have hx3 := (MapKept.heap_alloc V2 (.cells #[.int .u8 vk, .int .i64 vn, .string ⟨vs.toArray⟩] 32)).1
        rw [hW3] at hx3
        have h3 := h2.below hb3
        have Ht := hide (text_any ⟨vk, vn, ⟨vs.toArray⟩⟩ W3 hfit (hR2.below hb3))
        have HW3 := hide hW3
        have Hx3 := hide hx3
        have H3 := hide h3
        have hv0 : W3.cell? ⟨V2.heap.size, 0, none⟩ = some (.int .u8 vk) := by simp [World.cell?, hx3]
        have hv1 : W3.cell? ⟨V2.heap.size, 1, none⟩ = some (.int .i64 vn) := by simp [World.cell?, hx3]
        have hv2 : W3.cell? ⟨V2.heap.size, 2, none⟩ = some (.string ⟨vs.toArray⟩) := by simp [World.cell?, hx3]
        clear hW3 hx3 h3 h2 hR2 hb3 b0 b1 b2 bf Hf1 Hr
        go_upto_region 9 with fail
        rw [HW3.out]
        go_wp2_with fail
        (with_reducible refine Ht.out.mono ?_)
        rintro e V4 ⟨rfl, hb4⟩
        have h4 := H3.out.below hb4
        obtain ⟨b0, b1, b2, bf, _, _, hlt4, _⟩ := h4.cells
        have hx4 := (hb4.block _ (lt_of_block Hx3.out)).trans Hx3.out
        clear hv0 hv1 hv2
        have hv0 : V4.cell? ⟨V2.heap.size, 0, none⟩ = some (.int .u8 vk) := by simp [World.cell?, hx4]
        have hv1 : V4.cell? ⟨V2.heap.size, 1, none⟩ = some (.int .i64 vn) := by simp [World.cell?, hx4]
        have hv2 : V4.cell? ⟨V2.heap.size, 2, none⟩ = some (.string ⟨vs.toArray⟩) := by simp [World.cell?, hx4]
        have HB := hide h4.low
        have htx : dl (txtB ⟨vk, vn, ⟨vs.toArray⟩⟩) = txtM vk vn vs := rfl
        obtain ⟨X, hX⟩ : ∃ X, txtB ⟨vk, vn, ⟨vs.toArray⟩⟩ = X := ⟨_, rfl⟩
        rw [hX] at htx ⊢
        rw [← htx] at HP
        clear hX htx hb4 h4 hx4 Ht HW3 Hx3 H3
        by_cases hXs : dl X = dl s
        · have hXe : X = s := dl_inj hXs
          subst hXe
          have HP : Hid (prsL (dl X) = .ok (vk, vn, vs)) := hide (by rw [HP.out, if_pos rfl])
          go_wp2
          refine bodyPost_ret (v := .tuple #[.agg #[.int .u8 vk, .int .i64 vn, .string ⟨vs.toArray⟩], .int .i64 0]) (by simp [results, Tryz.results98, go_sem, *]) rfl ?_
          rw [HP.out]
          exact ⟨((HB.out.setCell (by simp) _).setCell (by simp) _).setCell (by simp) _, rfl⟩
        · have HP : Hid (prsL (dl s) = .error 4) := hide (by rw [HP.out, if_neg hXs])
          have t1 : (X.toList == s.toList) = false := by rw [toList_dl, toList_dl]; simpa using hXs
          have t2 : (X.toList != s.toList) = true := by rw [toList_dl, toList_dl]; simpa using hXs
          clear hXs
          go_wp2
          refine bodyPost_ret (v := .tuple #[.agg #[.int .u8 0, .int .i64 0, .string ⟨#[]⟩], .int .i64 4]) (by simp [results, Tryz.results98, go_sem, *]) rfl ?_
          rw [HP.out]
          exact ⟨((HB.out.setCell (by simp) _).setCell (by simp) _).setCell (by simp) _, rfl⟩
    all_goals
      simp only [if_true] at HV1 c3
      have hv := HV1.out
      subst hv
      clear HV1 c0 c1 c2 cf c3 cf3 hq
      go_wp2_with fail
      (with_reducible refine Hcall.out.mono ?_)
      rintro e V2 ⟨hb, he⟩
      have h2 := hh.out.below hb
      have hR2 := HR0.out.below h2.low
      clear Hcall b0 b1 b2 bf b3 bf3 hb
      obtain ⟨b0, b1, b2, bf, _, _, hlt, _⟩ := h2.cells
      cases r with
      | error q =>
        simp only at he HP
        obtain ⟨ek, en, es, rfl⟩ := he
        have hq0 : (q == 0) = false := by
          have := Hf1.out
          unfold FitR at this
          simp
          omega
        have HB := hide h2.low
        have HP := hide HP.out
        clear h2 hR2 Hf1 Hr
        go_wp2
        refine bodyPost_ret (v := .tuple #[.agg #[.int .u8 0, .int .i64 0, .string ⟨#[]⟩], .int .i64 q]) (by simp [results, Tryz.results98, go_sem, *]) rfl ?_
        rw [HP.out]
        exact ⟨(((HB.out.setCell (by simp) _).setCell (by simp) _).setCell (by simp) _).alloc (by simp [World.setCell]; omega) _, rfl⟩
      | ok p2 =>
        obtain ⟨vk, vn, vs⟩ := p2
        simp only at he HP
        subst he
        have hfit : (⟨vk, vn, ⟨vs.toArray⟩⟩ : Vl).fit := by
          obtain ⟨h1, h2, h3⟩ := Hf1.out
          refine ⟨?_, h1, h2⟩
          rw [← dl_size, dl_mk]
          rw [dl_size] at h3
          exact Nat.le_trans h3 hs
        obtain ⟨W3, hW3⟩ : ∃ W3, V2.alloc (.cells #[.int .u8 vk, .int .i64 vn, .string ⟨vs.toArray⟩] 32) = W3 := ⟨_, rfl⟩
        have hb3 : Below V2.heap.size V2 W3 := by rw [← hW3]; exact (Below.refl V2.heap.size V2).alloc (Nat.le_refl _) _
        have hx3 := (MapKept.heap_alloc V2 (.cells #[.int .u8 vk, .int .i64 vn, .string ⟨vs.toArray⟩] 32)).1
        rw [hW3] at hx3
        have h3 := h2.below hb3
        have Ht := hide (text_any ⟨vk, vn, ⟨vs.toArray⟩⟩ W3 hfit (hR2.below hb3))
        have HW3 := hide hW3
        have Hx3 := hide hx3
        have H3 := hide h3
        have hv0 : W3.cell? ⟨V2.heap.size, 0, none⟩ = some (.int .u8 vk) := by simp [World.cell?, hx3]
        have hv1 : W3.cell? ⟨V2.heap.size, 1, none⟩ = some (.int .i64 vn) := by simp [World.cell?, hx3]
        have hv2 : W3.cell? ⟨V2.heap.size, 2, none⟩ = some (.string ⟨vs.toArray⟩) := by simp [World.cell?, hx3]
        clear hW3 hx3 h3 h2 hR2 hb3 b0 b1 b2 bf Hf1 Hr
        go_upto_region 9 with fail
        rw [HW3.out]
        go_wp2_with fail
        (with_reducible refine Ht.out.mono ?_)
        rintro e V4 ⟨rfl, hb4⟩
        have h4 := H3.out.below hb4
        obtain ⟨b0, b1, b2, bf, _, _, hlt4, _⟩ := h4.cells
        have hx4 := (hb4.block _ (lt_of_block Hx3.out)).trans Hx3.out
        clear hv0 hv1 hv2
        have hv0 : V4.cell? ⟨V2.heap.size, 0, none⟩ = some (.int .u8 vk) := by simp [World.cell?, hx4]
        have hv1 : V4.cell? ⟨V2.heap.size, 1, none⟩ = some (.int .i64 vn) := by simp [World.cell?, hx4]
        have hv2 : V4.cell? ⟨V2.heap.size, 2, none⟩ = some (.string ⟨vs.toArray⟩) := by simp [World.cell?, hx4]
        have HB := hide h4.low
        have htx : dl (txtB ⟨vk, vn, ⟨vs.toArray⟩⟩) = txtM vk vn vs := rfl
        obtain ⟨X, hX⟩ : ∃ X, txtB ⟨vk, vn, ⟨vs.toArray⟩⟩ = X := ⟨_, rfl⟩
        rw [hX] at htx ⊢
        rw [← htx] at HP
        clear hX htx hb4 h4 hx4 Ht HW3 Hx3 H3
        by_cases hXs : dl X = dl s
        · have hXe : X = s := dl_inj hXs
          subst hXe
          have HP : Hid (prsL (dl X) = .ok (vk, vn, vs)) := hide (by rw [HP.out, if_pos rfl])
          go_wp2
          refine bodyPost_ret (v := .tuple #[.agg #[.int .u8 vk, .int .i64 vn, .string ⟨vs.toArray⟩], .int .i64 0]) (by simp [results, Tryz.results98, go_sem, *]) rfl ?_
          rw [HP.out]
          exact ⟨((HB.out.setCell (by simp) _).setCell (by simp) _).setCell (by simp) _, rfl⟩
        · have HP : Hid (prsL (dl s) = .error 4) := hide (by rw [HP.out, if_neg hXs])
          have t1 : (X.toList == s.toList) = false := by rw [toList_dl, toList_dl]; simpa using hXs
          have t2 : (X.toList != s.toList) = true := by rw [toList_dl, toList_dl]; simpa using hXs
          clear hXs
          go_wp2
          refine bodyPost_ret (v := .tuple #[.agg #[.int .u8 0, .int .i64 0, .string ⟨#[]⟩], .int .i64 4]) (by simp [results, Tryz.results98, go_sem, *]) rfl ?_
          rw [HP.out]
          exact ⟨((HB.out.setCell (by simp) _).setCell (by simp) _).setCell (by simp) _, rfl⟩
end Go.Proofs.YtkjndabbkfbkaaaGreatDoor
