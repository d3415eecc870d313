/- An argument that is a slice of activations, opened; and witanref26.Great of it. -/
import Derived.Test.YtelgajgghgknnaaArgsA
import Derived.Test.YtelgajgghgknnaaGreat
import Derived.Test.YtelgajgghgknnaaSortB
namespace Go.Proofs.Ytelgajgghgknnaa
open Go Go.ChangeShapes Go.WideShapes Go.ChangeAt Go.RowKit Go.Deep

/-- An activation as it may be handed in. -/
structure ActD where
  r : Int
  a : Option Addr
  n : Nat
  c : Nat
  s : Int
  t : List Int
def ActAt (w : World) (b o : Nat) (g : ActD) : Prop :=
  w.cell? ⟨b, o, none⟩ = some (.int .i64 g.r) ∧ w.cell? ⟨b, o + 1, none⟩ = some (.slice g.a g.n g.c) ∧ w.cell? ⟨b, o + 2, none⟩ = some (.int .i64 g.s) ∧ g.n ≤ 9223372036854775807 ∧ (g.n ≤ 1000000 → g.t.length = g.n ∧ NIs w (.slice g.a g.n g.c) g.t)
/-- The slice v, as it may be handed in. -/
def ActsD (w : World) (v : Value) (l : List ActD) : Prop :=
  (l.length ≤ 9223372036854775807 ∧ CapOk v) ∧ ((∃ b off cap, v = .slice (some ⟨b, off, none⟩) l.length cap ∧ ∀ i (h : i < l.length), ActAt w b (off + i * 3) l[i]) ∨ (l = [] ∧ (v = .slice none 0 0 ∨ ∃ a cap, v = .slice (some a) 0 cap)))

theorem ActsD.form {w : World} {v : Value} {l : List ActD} (h : ActsD w v l) : ∃ a c, v = .slice a l.length c := by
  rcases h.2 with ⟨b, off, cap, rfl, _⟩ | ⟨rfl, rfl | ⟨a, cap, rfl⟩⟩ <;> exact ⟨_, _, rfl⟩

def ActD.ac (g : ActD) : Ac := ⟨g.r, g.t, g.s, .slice g.a g.n g.c⟩

theorem ActsD.acts {w : World} {v : Value} {l : List ActD} (h : ActsD w v l) (hl : l.length ≤ 1000000) (hn : ∀ g ∈ l, g.n ≤ 1000000) : ActsIs w v (l.map ActD.ac) := by
  have key : ∀ g ∈ l, NIs w g.ac.x g.ac.tup := fun g hg => by
    rcases h.2 with ⟨b, off, cap, e, hi⟩ | ⟨rfl, _⟩
    · obtain ⟨i, hi', rfl⟩ := List.getElem_of_mem hg
      exact ((hi i hi').2.2.2.2 (hn _ hg)).2
    · simp at hg
  refine ⟨by simpa using hl, ?_, fun a ha => ?_⟩
  · rcases h.2 with ⟨b, off, cap, e, hi⟩ | ⟨rfl, q⟩
    · refine .inl ⟨b, off, cap, by simpa using e, fun i hil => ?_⟩
      have hil' : i < l.length := by simpa using hil
      obtain ⟨h0, h1, h2, _⟩ := hi i hil'
      simp only [List.getElem_map]
      exact ⟨h0, h1, h2⟩
    · exact .inr ⟨rfl, q⟩
  · obtain ⟨g, hg, rfl⟩ := List.mem_map.1 ha
    exact key g hg

set_option maxRecDepth 100000 in
theorem open_acts {H : Type} {enc : TypeId × Value → H} {w : World} {base : Nat} {spare : Nat → Bool} {held : Bool} {v : Value} {d : DataW H} {p : List MemPlace} {r : Reach} {b0 : Nat}
    (hv : Value.okWide Try.prog w r b0 22 v) (h : DataW.Trod enc Try.prog w base spare held 22 v d p) : ∃ l, ActsD w v l := by
  obtain ⟨a', n', c', rfl⟩ := okWide_slice Try.underlying22 hv
  obtain ⟨fuel, h⟩ := h
  rcases open_slice_fields Try.underlying22 Try.underlying27 (by kernel_rfl) (by kernel_rfl) h with ⟨hc, _⟩ | ⟨a, len, cap, m, D, Pl, hc, _, hle, hcap, hm, _, hi⟩
  · simp only [Value.cells, List.cons.injEq, and_true] at hc
    rw [hc]
    exact ⟨[], ⟨by simp, Nat.le_refl _⟩, .inr ⟨rfl, .inl rfl⟩⟩
  · simp only [Value.cells, List.cons.injEq, and_true] at hc
    rw [hc]
    have hml : len ≤ m := by rw [hm]; split <;> omega
    unfold maxLen at hcap
    by_cases h0 : len = 0
    · subst h0
      exact ⟨[], ⟨by simp, hle⟩, .inr ⟨rfl, .inr ⟨a, cap, rfl⟩⟩⟩
    · have hs : a = ⟨a.block, a.off, none⟩ := by
        obtain ⟨ys, n, _, _, _, hf⟩ := hi 0 (by omega)
        obtain ⟨v0, y0, c0, _, t0⟩ := hf 0 _ rfl
        exact spot_none (by simpa [Addr.add] using c0)
      have hcells : ∀ i, i < len → ∃ o : ActD, ActAt w a.block (a.off + i * 3) o := by
        intro i hil
        obtain ⟨ys, n, _, _, _, hf⟩ := hi i (by omega)
        obtain ⟨v0, y0, c0, _, t0⟩ := hf 0 _ rfl
        obtain ⟨v1, y1, c1, _, t1⟩ := hf 1 _ rfl
        obtain ⟨v2, y2, c2, _, t2⟩ := hf 2 _ rfl
        obtain ⟨k, e0, _, _⟩ := DataW.trod_int Try.underlying3 t0
        obtain ⟨q, e2, _, _⟩ := DataW.trod_int Try.underlying3 t2
        obtain ⟨xa, xn, xc, rfl, hxn, hxl⟩ := open_ints0 t1
        simp only [List.cons.injEq, and_true] at e0 e2
        subst e0 e2
        rw [hs] at c0 c1 c2
        simp only [Addr.add_lit] at c0 c1 c2
        by_cases hn : xn ≤ 1000000
        · obtain ⟨l, hl, hnl⟩ := hxl hn
          exact ⟨⟨k, xa, xn, xc, q, l⟩, c0, c1, c2, hxn, fun _ => ⟨hl, hnl⟩⟩
        · exact ⟨⟨k, xa, xn, xc, q, []⟩, c0, c1, c2, hxn, fun h => absurd h hn⟩
      obtain ⟨l, hl, hp⟩ := exists_list _ len hcells
      exact ⟨l, ⟨by omega, hle⟩, .inl ⟨a.block, a.off, cap, by rw [hl]; exact congrArg (fun q => Value.slice (some q) len cap) hs, hp⟩⟩

/-- Great of what was handed in. -/
def greatD (l : List ActD) (most : Int) : Bool := great (l.map (·.n)) most

theorem greatD_any (v : Value) (l : List ActD) (most : Int) (h0 : 0 ≤ most) (w : World) (h : ActsD w v l) :
    Calls Try.prog 8 #[v, .int .i64 most] w fun e w' => e = .returned (.bool (greatD l most)) ∧ w' = w := by
  rcases h.2 with ⟨b, off, cap, rfl, hi⟩ | ⟨rfl, hv⟩
  · have := great_any b off cap (l.map fun g => (g.a, g.n, g.c)) most w (by simpa using h.1.1) (fun i hil => by
      have hil' : i < l.length := by simpa using hil
      have := (hi i hil').2.1
      simpa using this)
    rw [List.length_map, List.map_map] at this
    exact this
  · have hg : greatD [] most = false := by simp [greatD, great]; omega
    rw [hg]
    obtain ⟨a, c, rfl⟩ : ∃ a c, v = .slice a 0 c := by rcases hv with rfl | ⟨a, c, rfl⟩ <;> exact ⟨_, _, rfl⟩
    have h1 : decide (most < 0) = false := decide_eq_false (by omega)
    have h2 : ¬ most < 0 := by omega
    go_enter Try.func8, Try.ntmps8
    go_wp2_with fail
    refine wp_loop_rounds 1 ?_
    rw [rounds_succ]
    go_wp2
    go_ret
    exact ⟨by simp, rfl⟩

theorem greatD_false {l : List ActD} {most : Int} (h : greatD l most = false) : (l.length : Int) ≤ most ∧ ∀ g ∈ l, g.n ≤ 20 := by
  unfold greatD great at h
  rw [Bool.or_eq_false_iff] at h
  refine ⟨by simpa using h.2, fun g hg => ?_⟩
  have := List.any_eq_false.1 h.1 g.n (List.mem_map.2 ⟨g, hg, rfl⟩)
  simpa using this
end Go.Proofs.Ytelgajgghgknnaa
