/- strings.FieldsSeq at a text of ASCII: each word is handed to the loop, one by one. -/
import Derived.Test.YteealadflekffaaDoorTm4
import Derived.RangeFuncNested
import Derived.RangeFuncBound
import Derived.RangeFuncCalls
import Derived.RangeFuncLeaves
import Derived.Shelf.Abstract
import Derived.Shelf.RegionOpen
import Derived.OwnWalkIn
import Derived.TacticsInMore
import Derived.LoopNIn
import Derived.LoopIn
import Derived.Maps.OwnIn
import Derived.Maps.OwnSet
import Derived.WalkSmall
import Derived.Lib.LaidTab
namespace Go.Proofs.YteealadflekffaaDoor
open Go Go.RowKit Go.Lib Go.Shelf

attribute [local go_sem] Oper.semAt_some

/-- The library's table of blanks, as its initialiser lays it. -/
def Tab (w : World) : Prop := Lib.TabIs Tryd.prog w "strings.asciiSpace" .u8 Lib.asciiSpaceTab ∧ 0 < w.heap.size
theorem Tab.below {w w' : World} (h : Tab w) (hb : Below w.heap.size w w') : Tab w' :=
  ⟨var?_below hb (by kernel_rfl) h.2 h.1, Nat.lt_of_lt_of_le h.2 hb.size⟩
theorem Tab.cell {w : World} (h : Tab w) (x : UInt8) : w.cell? ⟨0, x.toNat, none⟩ = some (.int .u8 (if Lib.isSp x then 1 else 0)) := by
  have := h.1.cell (g := 0) (by kernel_rfl) x.toNat (by rw [Lib.asciiSpaceTab_length]; exact x.toNat_lt)
  rw [Lib.asciiSpaceTab_at _ x.toNat_lt] at this
  simpa using this

/-- What a round keeps. -/
def KeepB (S : List Nat) (w w' : World) : Prop := ∀ k ∈ S, w'.heap[k]? = w.heap[k]?
theorem KeepB.cell {S : List Nat} {w w' : World} (h : KeepB S w w') {b o : Nat} (hb : b ∈ S) : w'.cell? ⟨b, o, none⟩ = w.cell? ⟨b, o, none⟩ := World.cell?_of_block (w := w) (h b hb)

theorem keepB_t {S : List Nat} {A B C : World} (h : KeepB S A B) (k : KeepB S B C) : KeepB S A C := fun i hi => (k i hi).trans (h i hi)
theorem keepB_b {S : List Nat} {w : World} (hS : ∀ k ∈ S, k < w.heap.size) (W : World) (l : Nat) (o o' : Obj) (hl : w.heap.size ≤ l) (_ : W.heap[l]? = some o) (_ : o.isCells = false) (_ : o.isWalk = false) : KeepB S W (W.putObj l o') := fun k hk => by
  have := hS k hk
  exact World.putObj_heap_other (by omega)

/-- A text that is no longer than a text may be. -/
abbrev Str := { s : ByteArray // s.size ≤ maxLen }
/-- The words, as bytes. -/
def wordsOf (l : List Str) : List (List UInt8) := l.map fun b => b.1.data.toList
theorem extract_le (s : ByteArray) (hs : s.size ≤ 9223372036854775806) (a k : Nat) : (s.extract a k).size ≤ maxLen := by
  have : (s.extract a k).size = min k s.size - a := ByteArray.size_extract
  unfold maxLen
  omega

theorem Tab.keep {w w' : World} {Bn : Nat} (h : Tab w) (hk : KeepB [0, Bn] w w') : Tab w' := by
  have e := hk 0 (by simp)
  refine ⟨?_, ?_⟩
  · have h1 := h.1
    unfold Lib.TabIs World.var? at h1 ⊢
    rw [show Tryd.prog.globalNamed "strings.asciiSpace" = some 0 by kernel_rfl] at h1 ⊢
    simp only [Option.bind_some] at h1 ⊢
    rw [e]
    exact h1
  · have h2 := h.2
    rcases Nat.lt_or_ge 0 w'.heap.size with q | q
    · exact q
    · rw [Array.getElem?_eq_none (by omega), Array.getElem?_eq_getElem h2] at e
      cases e

theorem drop_at {s : ByteArray} {k : Nat} (h : k < s.size) : s.data.toList.drop k = s[k] :: s.data.toList.drop (k + 1) := by
  have h' : k < s.data.toList.length := by simpa using h
  rw [List.drop_eq_getElem_cons h']
  rfl
theorem take_more {s : ByteArray} {a k : Nat} (h : k < s.size) (ha : a ≤ k) : (s.data.toList.drop a).take (k + 1 - a) = (s.data.toList.drop a).take (k - a) ++ [s[k]] := by
  have h' : k < s.data.toList.length := by simpa using h
  rw [show k + 1 - a = (k - a) + 1 by omega, List.take_succ_eq_append_getElem (by simp; omega)]
  congr 1
  simp only [List.getElem_drop, List.cons.injEq, and_true]
  have : a + (k - a) = k := by omega
  simp only [this]
  rfl
theorem cur_ne {s : ByteArray} {a k : Nat} (h : a < k) (hk : k ≤ s.size) : (s.data.toList.drop a).take (k - a) ≠ [] := by
  intro e
  have := congrArg List.length e
  simp at this
  omega
theorem go_sp {cur t : List UInt8} {x : UInt8} (hx : isSp x = true) (hc : cur ≠ []) : fieldsGo cur (x :: t) = cur :: fieldsGo [] t := by
  cases cur with
  | nil => exact absurd rfl hc
  | cons c r => simp [fieldsGo, hx]
theorem go_sp0 {t : List UInt8} {x : UInt8} (hx : isSp x = true) : fieldsGo [] (x :: t) = fieldsGo [] t := by simp [fieldsGo, hx]
theorem go_no {cur t : List UInt8} {x : UInt8} (hx : isSp x = false) : fieldsGo cur (x :: t) = fieldsGo (cur ++ [x]) t := by simp [fieldsGo, hx]
theorem go_end_ne {cur : List UInt8} (hc : cur ≠ []) : fieldsGo cur [] = [cur] := by
  cases cur with
  | nil => exact absurd rfl hc
  | cons c r => simp [fieldsGo]

set_option maxRecDepth 100000 in
set_option maxHeartbeats 4000000 in
theorem fseq_in (F : Fence) (n : Nat) (h47 : F.fn 47) (hro : F.round = none) (hn : 1 ≤ n) (l Bn : Nat) (s : ByteArray) (hs : s.size ≤ 9223372036854775806) (hascii : ∀ k (h : k < s.size), s[k].toNat < 128) (J Jx : List Str → World → Prop)
    (hY : ∀ pre x W, J pre W → pre.length < (Lib.fields s.data.toList).length → YieldAt F (n - 1) Tryd.prog l #[.string x.1] W fun e W' =>
      (e = .returned (.bool true) ∧ J (pre ++ [x]) W' ∧ KeepB [0, Bn] W W') ∨ (e = .returned (.bool false) ∧ Jx (pre ++ [x]) W'))
    (W : World) (hBn : W.cell? ⟨Bn, 0, none⟩ = some (.string s)) (hT : Tab W) (h0 : J [] W) :
    CallsIn F n Tryd.prog 47 #[.func (.yield l) #[] #[], .pointer (some ⟨Bn, 0, none⟩)] W fun e W' => (∃ v, e = .returned v) ∧
      ((∃ ys, wordsOf ys = Lib.fields s.data.toList ∧ J ys W') ∨ (∃ pre, True ∧ Jx pre W')) := by
  have HA := hide hascii
  clear hascii
  refine callsIn_of_wp Tryd.func47 rfl h47 ?_ hro
  simp only [Tryd.ntmps47, List.size_toArray, List.length_cons, List.length_nil, Nat.reduceAdd, Nat.reduceSub, Array.replicate_succ, Array.replicate_zero, List.push_toArray, List.append_toArray, List.nil_append, List.cons_append]
  gi_wp2
  gi_loopw [3, 4] (fun vs vi wr => ∃ (k a : Nat) (on : Bool) (st : Int) (pre : List Str), k ≤ s.size ∧ vi = .int .i64 k ∧ vs = .int .i64 st ∧ a ≤ k ∧ ((on = true ∧ st = a ∧ a < k) ∨ (on = false ∧ st = -1)) ∧
      Hid (wordsOf pre ++ Lib.fieldsGo (if on then (s.data.toList.drop a).take (k - a) else []) (s.data.toList.drop k) = Lib.fields s.data.toList) ∧ Hid (J pre wr) ∧ wr.cell? ⟨Bn, 0, none⟩ = some (.string s) ∧ Hid (Tab wr))
    (fun _ vi _ => s.size - (intOf vi).toNat)
  case atStart =>
    exact ⟨0, 0, false, -1, [], Nat.zero_le _, rfl, rfl, Nat.le_refl _, .inr ⟨rfl, rfl⟩, rfl, h0, hBn, hT⟩
  case round =>
    obtain ⟨k, a, on, st, pre, hk, rfl, rfl, hak, hon, hw, hJ, hb, hT'⟩ := hrel
    by_cases hlk : k < s.size
    · have ha := HA.out k hlk
      have hd := drop_at hlk
      have hm := take_more hlk hak
      obtain ⟨x, hx⟩ : ∃ x : UInt8, s[k] = x := ⟨_, rfl⟩
      have ht := hT'.out.cell x
      have hx256 := x.toNat_lt
      rw [hx] at ha hd hm
      have hxz : (x.toNat : Int) < 256 := by omega
      have hx1 : (x.toNat : Int) < 128 := by omega
      have hkz : (k : Int) < s.size := by omega
      cases hsp : Lib.isSp x <;> rw [hsp] at ht <;> simp only [Bool.false_eq_true, if_false, if_true] at ht
      · -- a letter
        rcases hon with ⟨rfl, rfl, hlt⟩ | ⟨rfl, rfl⟩
        · have Hw : Hid (wordsOf pre ++ Lib.fieldsGo ((s.data.toList.drop a).take (k + 1 - a)) (s.data.toList.drop (k + 1)) = Lib.fields s.data.toList) := by
            have h := hw.out
            simp only [if_true] at h
            rw [hd, go_no hsp] at h
            rw [Hid, hm]
            exact h
          have haz : (0 : Int) ≤ a := by omega
          clear hd hm hw hsp ha
          gi_wp2
          go_roundw
          case rel => exact ⟨k + 1, a, true, a, pre, by omega, by go_num, rfl, by omega, .inl ⟨rfl, rfl, by omega⟩, by simpa using Hw, hJ, hb, hT'⟩
          case measure => simp [intOf]; omega
        · have Hw : Hid (wordsOf pre ++ Lib.fieldsGo ((s.data.toList.drop k).take (k + 1 - k)) (s.data.toList.drop (k + 1)) = Lib.fields s.data.toList) := by
            have h := hw.out
            simp only [Bool.false_eq_true, if_false] at h
            rw [hd, go_no hsp] at h
            rw [Hid, show k + 1 - k = 1 by omega, hd]
            exact h
          clear hd hm hw hsp ha
          gi_wp2
          go_roundw
          case rel => exact ⟨k + 1, k, true, k, pre, by omega, by go_num, rfl, by omega, .inl ⟨rfl, rfl, by omega⟩, by simpa using Hw, hJ, hb, hT'⟩
          case measure => simp [intOf]; omega
      · -- a blank
        rcases hon with ⟨rfl, rfl, hlt⟩ | ⟨rfl, rfl⟩
        · have hw1 : wordsOf pre ++ ((s.data.toList.drop a).take (k - a) :: Lib.fieldsGo [] (s.data.toList.drop (k + 1))) = Lib.fields s.data.toList := by
            have h := hw.out
            simp only [if_true] at h
            rw [hd, go_sp hsp (cur_ne hlt hk)] at h
            exact h
          have hlen : pre.length < (Lib.fields s.data.toList).length := by
            rw [← hw1]
            simp [wordsOf]
          have Hw : Hid (wordsOf (pre ++ [⟨s.extract a k, extract_le s hs a k⟩]) ++ Lib.fieldsGo [] (s.data.toList.drop (k + 1)) = Lib.fields s.data.toList) := by
            rw [Hid, ← hw1]
            simp [wordsOf]
          obtain ⟨fn, tmps, assign, body, hy, hR⟩ := hY pre ⟨s.extract a k, extract_le s hs a k⟩ wr hJ.out hlen
          have haz : (0 : Int) ≤ a := by omega
          have hak' : (a : Int) ≤ k := by omega
          clear hd hm hw hsp ha hw1 hlen
          gi_wp2
          refine hR.mono ?_
          rintro e W3 (⟨rfl, hJ3, hk3⟩ | ⟨rfl, hJx3⟩)
          · have hb3 := (hk3.cell (b := Bn) (o := 0) (by simp)).trans hb
            have HT3 := hide (hT'.out.keep hk3)
            have HJ3 := hide hJ3
            clear hJ3 hk3
            gi_wp2
            go_roundw
            case rel => exact ⟨k + 1, 0, false, -1, pre ++ [⟨s.extract a k, extract_le s hs a k⟩], by omega, by go_num, rfl, by omega, .inr ⟨rfl, rfl⟩, by simpa using Hw, HJ3, hb3, HT3⟩
            case measure => simp [intOf]; omega
          · gi_wp2
            refine bodyPost_ret (results_none rfl _ _ _) rfl ?_
            exact ⟨⟨_, rfl⟩, .inr ⟨_, trivial, hJx3⟩⟩
        · have Hw : Hid (wordsOf pre ++ Lib.fieldsGo [] (s.data.toList.drop (k + 1)) = Lib.fields s.data.toList) := by
            have h := hw.out
            simp only [Bool.false_eq_true, if_false] at h
            rw [hd, go_sp0 hsp] at h
            exact h
          clear hd hm hw hsp ha
          gi_wp2
          go_roundw
          case rel => exact ⟨k + 1, 0, false, -1, pre, by omega, by go_num, rfl, by omega, .inr ⟨rfl, rfl⟩, by simpa using Hw, hJ, hb, hT'⟩
          case measure => simp [intOf]; omega
    · obtain rfl : k = s.size := by omega
      have hdn : s.data.toList.drop s.size = [] := List.drop_eq_nil_of_le (by simp)
      rcases hon with ⟨rfl, rfl, hlt⟩ | ⟨rfl, rfl⟩
      · have hw1 : wordsOf pre ++ [(s.data.toList.drop a).take (s.size - a)] = Lib.fields s.data.toList := by
          have h := hw.out
          simp only [if_true] at h
          rw [hdn, go_end_ne (cur_ne hlt hk)] at h
          exact h
        have hlen : pre.length < (Lib.fields s.data.toList).length := by
          rw [← hw1]
          simp [wordsOf]
        have Hw : Hid (wordsOf (pre ++ [⟨s.extract a s.size, extract_le s hs a s.size⟩]) = Lib.fields s.data.toList) := by
          rw [Hid, ← hw1]
          simp [wordsOf]
        obtain ⟨fn, tmps, assign, body, hy, hR⟩ := hY pre ⟨s.extract a s.size, extract_le s hs a s.size⟩ wr hJ.out hlen
        have haz : (0 : Int) ≤ a := by omega
        have hak' : (a : Int) ≤ s.size := by omega
        clear hdn hw hw1 hlen
        gi_wp2
        refine hR.mono ?_
        rintro e W3 (⟨rfl, hJ3, hk3⟩ | ⟨rfl, hJx3⟩)
        · gi_wp2
          go_end0
          exact ⟨⟨_, rfl⟩, .inl ⟨_, Hw.out, hJ3⟩⟩
        · gi_wp2
          go_end0
          exact ⟨⟨_, rfl⟩, .inr ⟨_, trivial, hJx3⟩⟩
      · have Hw : Hid (wordsOf pre = Lib.fields s.data.toList) := by
          have h := hw.out
          simp only [Bool.false_eq_true, if_false] at h
          rw [hdn] at h
          rw [Hid, ← h]
          simp [Lib.fieldsGo]
        clear hdn hw
        gi_wp2
        go_end0
        exact ⟨⟨_, rfl⟩, .inl ⟨_, Hw.out, hJ.out⟩⟩
end Go.Proofs.YteealadflekffaaDoor
