/- A value that is an argument, opened. -/
import Derived.Test.YtgfakdobajgnfaaGreatDoorVArgs0
import Derived.Test.YtgfakdobajgnfaaGreatDoorVt1
namespace Go.Proofs.YtgfakdobajgnfaaGreatDoor
open Go Go.ChangeShapes Go.WideShapes Go.ChangeAt Go.RowKit Go.Deep Go.Lib

theorem bu8' {n : Int} (h : (Lit.int .u8 n).wf = true) : 0 ≤ n ∧ n ≤ 255 := by
  simp [Lit.wf, IntKind.min, IntKind.max, IntKind.signed, IntKind.bits] at h
  omega
set_option maxRecDepth 100000 in
theorem bi64' {n : Int} (h : (Lit.int .i64 n).wf = true) : -9223372036854775808 ≤ n ∧ n ≤ 9223372036854775807 := by
  simp [Lit.wf, IntKind.min, IntKind.max, IntKind.signed, IntKind.bits] at h
  omega
section
variable {H : Type} {enc : TypeId × Value → H} {w : World} {base : Nat} {spare : Nat → Bool} {held : Bool}
set_option maxRecDepth 100000 in
theorem open_val {v : Value} {d : DataW H} {p : List MemPlace} {r : Reach} {b0 : Nat} (hv : Value.okWide Tryz.prog w r b0 23 v) (h : DataW.Trod enc Tryz.prog w base spare held 23 v d p) :
    ∃ t : Vl, v = .agg #[.int .u8 t.k, .int .i64 t.n, .string t.s] ∧ t.fit := by
  obtain ⟨v0, v1, v2, y0, y1, y2, n, rfl, _, _, t0, t1, t2⟩ := Joins.open_agg3 Tryz.underlying23 (by kernel_rfl) (by kernel_rfl) hv h
  obtain ⟨k, e0, _, hk⟩ := DataW.trod_int Tryz.underlying5 t0
  obtain ⟨n, e1, _, hn⟩ := DataW.trod_int Tryz.underlying2 t1
  obtain ⟨s, e2, _, hs⟩ := DataW.trod_string Tryz.underlying9 t2
  simp only [List.cons.injEq, and_true] at e0 e1 e2
  subst e0 e1 e2
  unfold maxLen at hs
  exact ⟨⟨k, n, s⟩, rfl, hs, bi64' hn⟩
end
end Go.Proofs.YtgfakdobajgnfaaGreatDoor
