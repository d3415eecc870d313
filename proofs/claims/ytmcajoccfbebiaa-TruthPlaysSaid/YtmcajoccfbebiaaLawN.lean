/- The plain law of order.Compare: it is a total preorder's comparison. -/
import Derived.Test.YtmcajoccfbebiaaCmpN
namespace Go.Proofs.Ytmcajoccfbebiaa
open Go

/-- A comparison. -/
structure Cmp {α : Type} (f : α → α → Int) : Prop where
  anti : ∀ a b, f b a = - f a b
  trans : ∀ a b c, f a b ≤ 0 → f b c ≤ 0 → f a c ≤ 0

theorem Cmp.lt1 {α : Type} {f : α → α → Int} (h : Cmp f) {a b c : α} (h1 : f a b < 0) (h2 : f b c ≤ 0) : f a c < 0 := by
  have := h.anti a c
  have := h.anti a b
  rcases (by omega : f a c < 0 ∨ 0 ≤ f a c) with q | q
  · exact q
  · have := h.trans b c a h2 (by omega)
    omega
theorem Cmp.lt2 {α : Type} {f : α → α → Int} (h : Cmp f) {a b c : α} (h1 : f a b ≤ 0) (h2 : f b c < 0) : f a c < 0 := by
  have := h.anti a c
  have := h.anti b c
  rcases (by omega : f a c < 0 ∨ 0 ≤ f a c) with q | q
  · exact q
  · have := h.trans c a b (by omega) h1
    omega

/-- First f, then g. -/
def andThen {α : Type} (f g : α → α → Int) (a b : α) : Int := if f a b ≠ 0 then f a b else g a b

theorem Cmp.andThen {α : Type} {f g : α → α → Int} (hf : Cmp f) (hg : Cmp g) : Cmp (andThen f g) := by
  constructor
  · intro a b
    have := hf.anti a b
    have := hg.anti a b
    unfold Proofs.Ytmcajoccfbebiaa.andThen
    split <;> split <;> omega
  · intro a b c
    unfold Proofs.Ytmcajoccfbebiaa.andThen
    have h1 := hf.trans a b c
    have h2 := @Cmp.lt1 _ _ hf a b c
    have h3 := @Cmp.lt2 _ _ hf a b c
    have h4 := hg.trans a b c
    intro q1 q2
    by_cases e1 : f a b = 0
    · by_cases e2 : f b c = 0
      · rw [if_neg (fun h => h e1)] at q1
        rw [if_neg (fun h => h e2)] at q2
        by_cases e3 : f a c = 0
        · rw [if_neg (fun h => h e3)]
          exact h4 q1 q2
        · rw [if_pos e3]
          omega
      · rw [if_pos e2] at q2
        have := h3 (by omega) (by omega)
        rw [if_pos (by omega)]
        omega
    · rw [if_pos e1] at q1
      by_cases e2 : f b c = 0
      · have := h2 (by omega) (by omega)
        rw [if_pos (by omega)]
        omega
      · rw [if_pos e2] at q2
        have := h2 (by omega) (by omega)
        rw [if_pos (by omega)]
        omega

theorem Cmp.on {α β : Type} {f : α → α → Int} (hf : Cmp f) (p : β → α) : Cmp (fun a b => f (p a) (p b)) := ⟨fun _ _ => hf.anti _ _, fun _ _ _ => hf.trans _ _ _⟩
theorem Cmp.flip {α : Type} {f : α → α → Int} (hf : Cmp f) : Cmp (fun a b => f b a) := ⟨fun _ _ => hf.anti _ _, fun _ _ _ h1 h2 => hf.trans _ _ _ h2 h1⟩
theorem Cmp.neg {α : Type} {f : α → α → Int} (hf : Cmp f) : Cmp (fun a b => - f a b) := by
  have : (fun a b => - f a b) = fun a b => f b a := by funext a b; exact (hf.anti a b).symm
  rw [this]
  exact hf.flip

theorem cmp_int : Cmp Lib.compareInt := by
  constructor
  · intro a b
    unfold Lib.compareInt
    split <;> split <;> (try split) <;> omega
  · intro a b c
    unfold Lib.compareInt
    split <;> split <;> (try split) <;> (try split) <;> (try split) <;> omega

theorem compareInt_zero (x y : Int) : Lib.compareInt x y = 0 ↔ x = y := by
  unfold Lib.compareInt
  split
  · omega
  · split <;> omega

theorem cmpL_zero : ∀ l m : List Int, cmpL l m = 0 ↔ l = m
  | [], [] => by simp [cmpL]
  | [], _ :: _ => by simp [cmpL]
  | _ :: _, [] => by simp [cmpL]
  | x :: l, y :: m => by
    unfold cmpL
    have := cmpL_zero l m
    have := compareInt_zero x y
    split
    · simp_all
    · simp_all

theorem cmpL_anti : ∀ l m : List Int, cmpL m l = - cmpL l m
  | [], [] => by simp [cmpL]
  | [], _ :: _ => by simp [cmpL]
  | _ :: _, [] => by simp [cmpL]
  | x :: l, y :: m => by
    have := cmpL_anti l m
    have := cmp_int.anti x y
    unfold cmpL
    split <;> split <;> omega

theorem cmpL_trans : ∀ l m k : List Int, cmpL l m ≤ 0 → cmpL m k ≤ 0 → cmpL l k ≤ 0
  | [], _, [] => by simp [cmpL]
  | [], _, _ :: _ => by simp [cmpL]
  | _ :: _, [], _ => by simp [cmpL]
  | _ :: _, _ :: _, [] => by simp [cmpL]
  | x :: l, y :: m, z :: k => by
    have ih := cmpL_trans l m k
    have h1 := cmp_int.trans x y z
    have h2 := @Cmp.lt1 _ _ cmp_int x y z
    have h3 := @Cmp.lt2 _ _ cmp_int x y z
    unfold cmpL
    intro q1 q2
    split at q1 <;> split at q2 <;> split <;> first | exact ih q1 q2 | omega

theorem cmp_list : Cmp cmpL := ⟨cmpL_anti, cmpL_trans⟩
end Go.Proofs.Ytmcajoccfbebiaa
