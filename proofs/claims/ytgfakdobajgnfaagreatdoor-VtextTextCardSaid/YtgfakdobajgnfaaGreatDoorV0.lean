/- What all texts of vtext, lexer and expr share: values. -/
import Derived.Test.YtgfakdobajgnfaaGreatDoorProg
import Derived.WalkKit
import Derived.WalkLawsBesides
import Derived.WalkSpells
import Derived.Below
import Derived.RegionTactic
import Derived.BigQuiet
import Derived.Deep.QuietTactic
import Derived.Deep.RegionHeld3
import Derived.Deep.RegionLaw
namespace Go.Proofs.YtgfakdobajgnfaaGreatDoor
open Go Go.RowKit

theorem hide {p : Prop} (h : p) : Hid p := h
theorem lt_of_cell {w : World} {p : Addr} {v : Value} (h : w.cell? p = some v) : p.block < w.heap.size := by
  simp only [World.cell?] at h
  cases hb : w.heap[p.block]? with
  | none => simp [hb] at h
  | some o => exact lt_of_block hb
theorem bcell {W w1 : World} (hb : Below W.heap.size W w1) {b o : Nat} {v : Value} (h : W.cell? ⟨b, o, none⟩ = some v) : w1.cell? ⟨b, o, none⟩ = some v :=
  (hb.cell (p := ⟨b, o, none⟩) (lt_of_cell h)).trans h

/-- A value. -/
structure Vl where
  k : Int
  n : Int
  s : ByteArray
  deriving DecidableEq
/-- The slice (a, its length, c) reads as l: k cells each. -/
def SlAt {α : Type} (k : Nat) (cells : α → List Value) (w : World) (a : Option Addr) (c : Nat) (l : List α) : Prop :=
  l.length ≤ c ∧ c ≤ 9223372036854775807 ∧ ((∃ b off, a = some ⟨b, off, none⟩ ∧ ∀ i (h : i < l.length) j v, (cells l[i])[j]? = some v → w.cell? ⟨b, off + i * k + j, none⟩ = some v) ∨ l = [])

theorem SlAt.below {α : Type} {k : Nat} {cells : α → List Value} {w w' : World} {a : Option Addr} {c : Nat} {l : List α} (h : SlAt k cells w a c l) (hb : Below w.heap.size w w') : SlAt k cells w' a c l := by
  obtain ⟨h1, h2, ⟨b, off, rfl, h3⟩ | rfl⟩ := h
  · exact ⟨h1, h2, .inl ⟨b, off, rfl, fun i hi j v hv => bcell hb (h3 i hi j v hv)⟩⟩
  · exact ⟨h1, h2, .inr rfl⟩
theorem SlAt.len {α : Type} {k : Nat} {cells : α → List Value} {w : World} {a : Option Addr} {c : Nat} {l : List α} (h : SlAt k cells w a c l) : l.length ≤ 9223372036854775807 := Nat.le_trans h.1 h.2.1
theorem SlAt.nil {α : Type} {k : Nat} {cells : α → List Value} (w : World) (a : Option Addr) {c : Nat} (hc : c ≤ 9223372036854775807) : SlAt k cells w a c [] := ⟨Nat.zero_le _, hc, .inr rfl⟩
theorem SlAt.get {α : Type} {k : Nat} {cells : α → List Value} {w : World} {a : Option Addr} {c : Nat} {l : List α} (h : SlAt k cells w a c l) {i : Nat} (hi : i < l.length) :
    ∃ b off, a = some ⟨b, off, none⟩ ∧ ∀ j v, (cells l[i])[j]? = some v → w.cell? ⟨b, off + i * k + j, none⟩ = some v := by
  obtain ⟨_, _, ⟨b, off, rfl, h3⟩ | rfl⟩ := h
  · exact ⟨b, off, rfl, h3 i hi⟩
  · simp at hi

def Vl.cells (v : Vl) : List Value := [.int .u8 v.k, .int .i64 v.n, .string v.s]
def Vl.val (v : Vl) : Value := .agg #[.int .u8 v.k, .int .i64 v.n, .string v.s]
/-- The kind of a value is a byte. -/
def Vl.ok (v : Vl) : Prop := 0 ≤ v.k ∧ v.k ≤ 255 ∧ v.s.size ≤ 9223372036854775807
end Go.Proofs.YtgfakdobajgnfaaGreatDoor
