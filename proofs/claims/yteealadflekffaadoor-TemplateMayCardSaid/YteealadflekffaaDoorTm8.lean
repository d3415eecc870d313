/- Kinds and their names: the program's, and the document's. -/
import Derived.Test.YteealadflekffaaDoorTm7
namespace Go.Proofs.YteealadflekffaaDoor
open Go Go.RowKit Go.Lib

abbrev kInt : ByteArray := ⟨#[105, 110, 116]⟩
abbrev kDec : ByteArray := ⟨#[100, 101, 99]⟩
abbrev kStr : ByteArray := ⟨#[115, 116, 114]⟩
abbrev kBool : ByteArray := ⟨#[98, 111, 111, 108]⟩
abbrev kSym : ByteArray := ⟨#[115, 121, 109]⟩
abbrev kindsS : ByteArray := ⟨#[105, 110, 116, 32, 100, 101, 99, 32, 115, 116, 114, 32, 98, 111, 111, 108, 32, 115, 121, 109]⟩
/-- The kinds' names, from 1 on. -/
def kindsL : List ByteArray := [kInt, kDec, kStr, kBool, kSym]
/-- A kind's name. -/
def knB (k : Int) : ByteArray := if k = 1 then kInt else if k = 2 then kDec else if k = 3 then kStr else if k = 4 then kBool else if k = 5 then kSym else ⟨#[]⟩

theorem kinds_fields : Lib.fields kindsS.data.toList = [[105, 110, 116], [100, 101, 99], [115, 116, 114], [98, 111, 111, 108], [115, 121, 109]] := by decide +kernel
theorem kinds_ascii : ∀ (j : Nat) b, kindsS.data.toList[j]? = some b → b.toNat < 128 := by
  intro j b hb
  have : ∀ b ∈ kindsS.data.toList, b.toNat < 128 := by decide
  exact this b (List.mem_of_getElem? hb)

theorem fieldsK (w : World) (hT : Tab w) : Calls Tryd.prog 37 #[.string kindsS] w fun e w' => e = .returned (.slice (some ⟨w.heap.size, 0, none⟩) 5 5) ∧ w' = w.alloc (.cells #[.string kInt, .string kDec, .string kStr, .string kBool, .string kSym] 9) := by
  have h := Tryd.strings_Fields kindsS w (by decide) kinds_ascii hT.1
  rw [kinds_fields] at h
  exact h

theorem kindName_any (k : Int) (w : World) (hT : Tab w) :
    Calls Tryd.prog 16 #[.int .u8 k] w fun e w' => e = .returned (.string (knB k)) ∧ Below w.heap.size w w' := by
  have Hf := hide (fieldsK w hT)
  have HB := hide ((Below.refl w.heap.size w).alloc (Nat.le_refl _) (.cells #[.string kInt, .string kDec, .string kStr, .string kBool, .string kSym] 9))
  clear hT
  by_cases h1 : k < 1
  · have hk : knB k = ⟨#[]⟩ := by
      unfold knB
      rw [if_neg (by omega), if_neg (by omega), if_neg (by omega), if_neg (by omega), if_neg (by omega)]
    rw [hk]
    clear hk
    go_enter Tryd.func16, Tryd.ntmps16
    go_wp2
    go_ret
    exact ⟨rfl, Below.refl _ _⟩
  · by_cases h5 : 5 < k
    · have hk : knB k = ⟨#[]⟩ := by
        unfold knB
        rw [if_neg (by omega), if_neg (by omega), if_neg (by omega), if_neg (by omega), if_neg (by omega)]
      rw [hk]
      have d1 : decide (k < 1) = false := by simpa using h1
      clear hk h1
      go_enter Tryd.func16, Tryd.ntmps16
      go_wp2
      go_ret
      exact ⟨rfl, Below.refl _ _⟩
    · have hk : k = 1 ∨ k = 2 ∨ k = 3 ∨ k = 4 ∨ k = 5 := by omega
      clear h1 h5
      rcases hk with rfl | rfl | rfl | rfl | rfl
      all_goals
        go_enter Tryd.func16, Tryd.ntmps16
        go_wp2_with fail
        refine Hf.out.mono ?_
        rintro e w' ⟨rfl, rfl⟩
        go_wp2
        go_ret
        exact ⟨rfl, HB.out⟩

theorem rkindName_any (k : Int) (w : World) :
    Calls Tryd.prog 22 #[.int .u8 k] w fun e w' => e = .returned (.string (knB k)) ∧ w = w' := by
  by_cases hk : k = 1 ∨ k = 2 ∨ k = 3 ∨ k = 4 ∨ k = 5
  · rcases hk with rfl | rfl | rfl | rfl | rfl
    all_goals
      go_enter Tryd.func22, Tryd.ntmps22
      go_wp2
      go_ret
      exact ⟨rfl, rfl⟩
  · have e1 : (k == 1) = false := by simp; omega
    have e2 : (k == 2) = false := by simp; omega
    have e3 : (k == 3) = false := by simp; omega
    have e4 : (k == 4) = false := by simp; omega
    have e5 : (k == 5) = false := by simp; omega
    have hkn : knB k = ⟨#[]⟩ := by
      unfold knB
      rw [if_neg (by omega), if_neg (by omega), if_neg (by omega), if_neg (by omega), if_neg (by omega)]
    rw [hkn]
    clear hk hkn
    go_enter Tryd.func22, Tryd.ntmps22
    go_wp2
    go_ret
    exact ⟨rfl, rfl⟩

/-- Where a kind's name stands. -/
def kindIx (s : ByteArray) : Int := idxJ kindsL fun y => decide (s = y)
/-- The kind of a name. -/
def kindB (s : ByteArray) : Int × Bool := if s = kInt then (1, true) else if s = kDec then (2, true) else if s = kStr then (3, true) else if s = kBool then (4, true) else if s = kSym then (5, true) else (0, false)

theorem kindIx_eq (s : ByteArray) : kindIx s = if s = kInt then 0 else if s = kDec then 1 else if s = kStr then 2 else if s = kBool then 3 else if s = kSym then 4 else -1 := by
  unfold kindIx idxJ kindsL
  simp only [List.findIdx?_cons]
  by_cases h1 : s = kInt
  · simp [h1]
  · rw [decide_eq_false h1, if_neg h1]
    by_cases h2 : s = kDec
    · rw [decide_eq_true h2, if_pos h2]; rfl
    · rw [decide_eq_false h2, if_neg h2]
      by_cases h3 : s = kStr
      · rw [decide_eq_true h3, if_pos h3]; rfl
      · rw [decide_eq_false h3, if_neg h3]
        by_cases h4 : s = kBool
        · rw [decide_eq_true h4, if_pos h4]; rfl
        · rw [decide_eq_false h4, if_neg h4]
          by_cases h5 : s = kSym
          · rw [decide_eq_true h5, if_pos h5]; rfl
          · rw [decide_eq_false h5, if_neg h5]; rfl

theorem kindsAt (w : World) : StrsIs (w.alloc (.cells #[.string kInt, .string kDec, .string kStr, .string kBool, .string kSym] 9)) (some ⟨w.heap.size, 0, none⟩) 5 kindsL := by
  refine ⟨by decide, by decide, .inl ⟨w.heap.size, 0, rfl, fun i hi j v hv => ?_⟩⟩
  have hn := heap_new w (.cells #[.string kInt, .string kDec, .string kStr, .string kBool, .string kSym] 9)
  rcases j with _ | j
  · simp only [strC, List.getElem?_cons_zero, Option.some.injEq] at hv
    subst hv
    have hi' : i < 5 := hi
    simp only [World.cell?, hn]
    rcases i with _ | _ | _ | _ | _ | i
    · rfl
    · rfl
    · rfl
    · rfl
    · rfl
    · omega
  · simp [strC] at hv

theorem kind_any (s : ByteArray) (w : World) (hT : Tab w) :
    Calls Tryd.prog 17 #[.string s] w fun e w' => e = .returned (.tuple #[.int .u8 (kindB s).1, .bool (kindB s).2]) ∧ Below w.heap.size w w' := by
  have Hf := hide (fieldsK w hT)
  have HB := hide ((Below.refl w.heap.size w).alloc (Nat.le_refl _) (.cells #[.string kInt, .string kDec, .string kStr, .string kBool, .string kSym] 9))
  have hi := indexStr_any _ _ kindsL s _ (kindsAt w)
  have hix := kindIx_eq s
  unfold kindIx at hix
  obtain ⟨i, hi0⟩ : ∃ i, (idxJ kindsL fun y => decide (s = y)) = i := ⟨_, rfl⟩
  rw [hi0] at hi hix
  have Hi := hide (show Calls Tryd.prog 38 #[.slice (some ⟨w.heap.size, 0, none⟩) 5 5, .string s] (w.alloc (.cells #[.string kInt, .string kDec, .string kStr, .string kBool, .string kSym] 9)) fun r w' => r = .returned (.int .i64 i) ∧ (w.alloc (.cells #[.string kInt, .string kDec, .string kStr, .string kBool, .string kSym] 9)) = w' from hi)
  have hk : (i = 0 ∧ kindB s = (1, true)) ∨ (i = 1 ∧ kindB s = (2, true)) ∨ (i = 2 ∧ kindB s = (3, true)) ∨ (i = 3 ∧ kindB s = (4, true)) ∨ (i = 4 ∧ kindB s = (5, true)) ∨ (i = -1 ∧ kindB s = (0, false)) := by
    unfold kindB
    rw [hix]
    by_cases h1 : s = kInt
    · rw [if_pos h1, if_pos h1]; exact .inl ⟨rfl, rfl⟩
    · rw [if_neg h1, if_neg h1]
      by_cases h2 : s = kDec
      · rw [if_pos h2, if_pos h2]; exact .inr (.inl ⟨rfl, rfl⟩)
      · rw [if_neg h2, if_neg h2]
        by_cases h3 : s = kStr
        · rw [if_pos h3, if_pos h3]; exact .inr (.inr (.inl ⟨rfl, rfl⟩))
        · rw [if_neg h3, if_neg h3]
          by_cases h4 : s = kBool
          · rw [if_pos h4, if_pos h4]; exact .inr (.inr (.inr (.inl ⟨rfl, rfl⟩)))
          · rw [if_neg h4, if_neg h4]
            by_cases h5 : s = kSym
            · rw [if_pos h5, if_pos h5]; exact .inr (.inr (.inr (.inr (.inl ⟨rfl, rfl⟩))))
            · rw [if_neg h5, if_neg h5]; exact .inr (.inr (.inr (.inr (.inr ⟨rfl, rfl⟩))))
  clear hT hi hix hi0
  rcases hk with ⟨rfl, hk⟩ | ⟨rfl, hk⟩ | ⟨rfl, hk⟩ | ⟨rfl, hk⟩ | ⟨rfl, hk⟩ | ⟨rfl, hk⟩
  all_goals
    rw [hk]
    clear hk
    go_enter Tryd.func17, Tryd.ntmps17
    go_wp2_with fail
    refine Hf.out.mono ?_
    rintro e w' ⟨rfl, rfl⟩
    go_wp2_with fail
    refine Hi.out.mono ?_
    rintro e w' ⟨rfl, rfl⟩
    go_wp2
    go_ret2
    exact ⟨rfl, HB.out⟩

set_option maxHeartbeats 1000000 in
theorem rkind_any (s : ByteArray) (w : World) :
    Calls Tryd.prog 18 #[.string s] w fun e w' => e = .returned (.tuple #[.int .u8 (kindB s).1, .bool (kindB s).2]) ∧ w = w' := by
  go_enter Tryd.func18, Tryd.ntmps18
  go_wp2
  go_loop [4] (fun vi => ∃ k : Int, 1 ≤ k ∧ k ≤ 6 ∧ vi = .int .u8 k ∧ Hid (∀ j, 1 ≤ j → j < k → s ≠ knB j)) (fun i => (6 - intOf i).toNat)
  case atStart => exact ⟨1, by omega, by omega, rfl, fun j h1 h2 => by omega⟩
  case round =>
    obtain ⟨k, h1, h6, rfl, hq⟩ := hrel
    have Hc := hide (rkindName_any k w)
    by_cases hk : k ≤ 5
    · by_cases he : s = knB k
      · have hkb : kindB s = (k, true) := by
          have hk' : k = 1 ∨ k = 2 ∨ k = 3 ∨ k = 4 ∨ k = 5 := by omega
          rw [he]
          rcases hk' with rfl | rfl | rfl | rfl | rfl <;> decide
        have Hkb := hide hkb
        obtain ⟨y, hy⟩ : ∃ y, knB k = y := ⟨_, rfl⟩
        rw [hy] at Hc he
        subst he
        clear hkb hy
        go_wp2_with fail
        (with_reducible refine Hc.out.mono ?_)
        rintro e w' ⟨rfl, rfl⟩
        go_wp2
        go_ret2
        exact ⟨by rw [Hkb.out]; rfl, rfl⟩
      · have Hs : Hid (∀ j, 1 ≤ j → j < k + 1 → s ≠ knB j) := fun j a b => by
          rcases Int.lt_or_le j k with q | q
          · exact hq.out j a q
          · obtain rfl : j = k := by omega
            exact he
        obtain ⟨y, hy⟩ : ∃ y, knB k = y := ⟨_, rfl⟩
        rw [hy] at Hc he
        have hne : (y.toList == s.toList) = false := by simpa using fun e => he (bytes_inj e.symm)
        clear he hy
        go_wp2_with fail
        (with_reducible refine Hc.out.mono ?_)
        rintro e w' ⟨rfl, rfl⟩
        go_wp2
        go_round
        case rel => exact ⟨k + 1, by omega, by omega, by go_num, Hs.out⟩
        case measure => simp [intOf]; omega
    · obtain rfl : k = 6 := by omega
      have hkb : kindB s = (0, false) := by
        unfold kindB
        rw [if_neg (show s ≠ kInt from hq.out 1 (by omega) (by omega)), if_neg (show s ≠ kDec from hq.out 2 (by omega) (by omega)), if_neg (show s ≠ kStr from hq.out 3 (by omega) (by omega)), if_neg (show s ≠ kBool from hq.out 4 (by omega) (by omega)), if_neg (show s ≠ kSym from hq.out 5 (by omega) (by omega))]
      have Hkb := hide hkb
      clear hkb hq
      go_wp2
      go_ret2
      exact ⟨by rw [Hkb.out]; rfl, rfl⟩
end Go.Proofs.YteealadflekffaaDoor
