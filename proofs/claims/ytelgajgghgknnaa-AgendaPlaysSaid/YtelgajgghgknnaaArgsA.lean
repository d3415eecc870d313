/- An argument that is an activation, opened. -/
import Derived.Test.YtelgajgghgknnaaArgsI
import Derived.ChangeSame
namespace Go.Proofs.Ytelgajgghgknnaa
open Go Go.ChangeShapes Go.WideShapes Go.ChangeAt Go.RowKit Go.Deep

/-- An activation as it may be handed in: its tuple may be long. -/
def ActIs (w : World) (v : Value) (r : Int) (a : Option Addr) (n c : Nat) (s : Int) : Prop :=
  v = .agg #[.int .i64 r, .slice a n c, .int .i64 s] ∧ n ≤ 9223372036854775807 ∧ (n ≤ 1000000 → ∃ l, l.length = n ∧ NIs w (.slice a n c) l)

set_option maxRecDepth 100000 in
theorem open_act {H : Type} {enc : TypeId × Value → H} {w : World} {base : Nat} {spare : Nat → Bool} {held : Bool} {v : Value} {d : DataW H} {p : List MemPlace} {r : Reach} {b0 : Nat}
    (hv : Value.okWide Try.prog w r b0 27 v) (h : DataW.Trod enc Try.prog w base spare held 27 v d p) : ∃ ru a n c s, ActIs w v ru a n c s := by
  obtain ⟨cs, rfl, hcs⟩ := okWide_struct Try.underlying27 hv
  rw [show Try.prog.cellsOf 27 = 3 from by kernel_rfl] at hcs
  obtain ⟨c0, c1, c2, rfl⟩ : ∃ c0 c1 c2, cs = #[c0, c1, c2] := by
    obtain ⟨l⟩ := cs
    match l, hcs with
    | [c0, c1, c2], _ => exact ⟨c0, c1, c2, rfl⟩
  obtain ⟨fuel, h⟩ := h
  obtain ⟨xs, n, _, _, _, hxl, hf⟩ := DataW.trod_struct Try.underlying27 h
  have e1 : Try.prog.cellsOf 3 = 1 := by kernel_rfl
  have e2 : Try.prog.cellsOf 25 = 1 := by kernel_rfl
  have hx3 : xs.length = 3 := hxl
  have t0 := (hf 0 _ rfl).trans (List.getElem?_eq_getElem (by omega))
  have t1 := (hf 1 _ rfl).trans (List.getElem?_eq_getElem (by omega))
  have t2 := (hf 2 _ rfl).trans (List.getElem?_eq_getElem (by omega))
  have t0' : DataW.trod enc Try.prog w base spare held n 3 [c0] = some xs[0] := by
    have q : List.take (Try.prog.cellsOf 3) (List.drop 0 (Value.agg #[c0, c1, c2]).cells.toList) = [c0] := by rw [e1]; rfl
    rw [← q]
    exact t0
  have t1' : DataW.trod enc Try.prog w base spare held n 25 [c1] = some xs[1] := by
    have q : List.take (Try.prog.cellsOf 25) (List.drop 1 (Value.agg #[c0, c1, c2]).cells.toList) = [c1] := by rw [e2]; rfl
    rw [← q]
    exact t1
  have t2' : DataW.trod enc Try.prog w base spare held n 3 [c2] = some xs[2] := by
    have q : List.take (Try.prog.cellsOf 3) (List.drop 2 (Value.agg #[c0, c1, c2]).cells.toList) = [c2] := by rw [e1]; rfl
    rw [← q]
    exact t2
  obtain ⟨z0, f0, _, _⟩ := DataW.trod_int Try.underlying3 t0'
  obtain ⟨z2, f2, _, _⟩ := DataW.trod_int Try.underlying3 t2'
  obtain ⟨a, m, c, f1, hm, hl⟩ := open_ints0 t1'
  simp only [List.cons.injEq, and_true] at f0 f2
  subst f0 f1 f2
  exact ⟨z0, a, m, c, z2, rfl, hm, hl⟩
end Go.Proofs.Ytelgajgghgknnaa
