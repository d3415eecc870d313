/- lexer.Lex: the two ways. -/
import Derived.Test.YtkjndabbkfbkaaaGreatDoorLx8
namespace Go.Proofs.YtkjndabbkfbkaaaGreatDoor
open Go Go.RowKit Go.Lib Go.Sort Go.Shelf

theorem lex_ok {s : ByteArray} (w : World) (hs : s.size ≤ 65536) (hR : Rd w) {ts : List Tkn} (h : lexL (dl s) = .ok ts) :
    Calls Tryz.prog 28 #[.string s] w fun e w' => ∃ v, e = .returned (.tuple #[v, .agg #[.int .i64 0, .int .i64 0], .int .i64 0]) ∧ w'.ownsRow w.heap.size 62 7 v ts.length (tflat ts) ∧ Below w.heap.size w w' := by
  refine (lex_any s w hs hR).mono ?_
  rintro e w' ⟨hb, he⟩
  rw [h] at he
  obtain ⟨v, h1, h2⟩ := he
  exact ⟨v, h1, h2, hb⟩
theorem lex_er {s : ByteArray} (w : World) (hs : s.size ≤ 65536) (hR : Rd w) {a b q : Int} (h : lexL (dl s) = .error (a, b, q)) :
    Calls Tryz.prog 28 #[.string s] w fun e w' => e = .returned (.tuple #[.slice none 0 0, .agg #[.int .i64 a, .int .i64 b], .int .i64 q]) ∧ Below w.heap.size w w' := by
  refine (lex_any s w hs hR).mono ?_
  rintro e w' ⟨hb, he⟩
  rw [h] at he
  exact ⟨he, hb⟩
end Go.Proofs.YtkjndabbkfbkaaaGreatDoor
