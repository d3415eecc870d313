/- TemplateNulls: the plain law, and the walk. -/
import Derived.Test.YteealadflekffaaDoorTmFitsW
import Derived.Laws.OwnMore
namespace Go.Proofs.YteealadflekffaaDoor
open Go Go.RowKit Go.Lib

theorem u64_idx (k : Int) (n : Nat) (h : 0 < n) : ∃ j : Nat, j < n ∧ (IntKind.u64.wrap k).tmod (n : Int) = (j : Int) := by
  have h0 : 0 ≤ IntKind.u64.wrap k := by
    simp [IntKind.wrap, IntKind.signed, IntKind.bits]
    omega
  obtain ⟨u, hu⟩ : ∃ u : Nat, IntKind.u64.wrap k = (u : Int) := ⟨(IntKind.u64.wrap k).toNat, by omega⟩
  refine ⟨u % n, Nat.mod_lt _ h, ?_⟩
  rw [hu]
  rfl

abbrev vZ : Vl := ⟨0, 0, ⟨#[]⟩⟩
theorem mayZ : mayB vZ = true := by decide
theorem okZ : vZ.ok := ⟨by decide, by decide, by decide⟩
theorem fitAt_null {s : List Vl} {sl : List Slt} {i : Nat} (h : s[i]? = some vZ) : fitAt s sl i = true := by
  unfold fitAt
  rw [h]
  cases hsl : sl[i]? with
  | none => rfl
  | some d =>
    simp only [mayZ]
    rfl
theorem nulls_fit {L : List Tpl} {j : Nat} (hj : j < L.length) : fitsN L j (List.replicate L[j].s.length vZ) = 0 := by
  rw [fits_in hj, if_pos (by simp)]
  refine fitOk_all fun i hi => fitAt_null ?_
  simp only [List.length_replicate] at hi
  simp [hi]
theorem many_fit {L : List Tpl} {j : Nat} (hj : j < L.length) {s : List Vl} (h : s.length ≠ L[j].s.length) : fitsN L j s = 14 := by
  rw [fits_in hj, if_neg h]
theorem fits_zero {L : List Tpl} {j : Nat} (hj : j < L.length) {s : List Vl} (h : fitsN L j s = 0) : s.length = L[j].s.length ∧ ∀ i, i < s.length → fitAt s L[j].s i = true := by
  rw [fits_in hj] at h
  by_cases hl : s.length = L[j].s.length
  · refine ⟨hl, fun i hi => ?_⟩
    rw [if_pos hl] at h
    cases hq : fitAt s L[j].s i with
    | true => rfl
    | false =>
      rw [fitOk_not hi hq] at h
      cases h
  · rw [if_neg hl] at h
    cases h
theorem fits_set {L : List Tpl} {j : Nat} (hj : j < L.length) {s : List Vl} (h : fitsN L j s = 0) (i : Nat) : fitsN L j (s.set i vZ) = 0 := by
  obtain ⟨hl, ha⟩ := fits_zero hj h
  rw [fits_in hj, if_pos (by simpa using hl)]
  refine fitOk_all fun m hm => ?_
  simp only [List.length_set] at hm
  by_cases hmi : i = m
  · subst hmi
    exact fitAt_null (by simp [hm])
  · have := ha m hm
    unfold fitAt at this ⊢
    rw [List.getElem?_set_ne hmi]
    exact this

theorem made_vals (n : Nat) : (madeCells (Value.agg #[.int .u8 0, .int .i64 0, .string ⟨#[]⟩]).cells (n * 3)).toList = (List.replicate n vZ).flatMap Vl.cells := by
  apply List.ext_getElem?
  intro m
  by_cases hm : m < n * 3
  · have hk := flat_at vlCells (List.replicate n vZ) (m / 3) (m % 3) (by simp; omega) (Nat.mod_lt _ (by decide))
    have e : m / 3 * 3 + m % 3 = m := by omega
    rw [e] at hk
    rw [hk]
    simp only [madeCells, Array.getElem?_toList, Array.getElem?_map, List.getElem_replicate]
    rw [Array.getElem?_eq_getElem (by simpa using hm)]
    simp only [Array.getElem_range, Option.map_some]
    have h3 : m % 3 = 0 ∨ m % 3 = 1 ∨ m % 3 = 2 := by omega
    have hs : (Value.agg #[.int .u8 0, .int .i64 0, .string ⟨#[]⟩]).cells.size = 3 := rfl
    rw [hs]
    rcases h3 with h3 | h3 | h3 <;> rw [h3] <;> rfl
  · rw [List.getElem?_eq_none (by simp [size_madeCells]; omega), List.getElem?_eq_none (by rw [flat_len vlCells]; simp; omega)]

theorem flat_set (l : List Vl) (i : Nat) : (((l.flatMap Vl.cells).set (i * 3) (.int .u8 0)).set (i * 3 + 1) (.int .i64 0)).set (i * 3 + 2) (.string ⟨#[]⟩) = (l.set i vZ).flatMap Vl.cells := by
  apply List.ext_getElem?
  intro m
  by_cases hm : m < l.length * 3
  · have hk := flat_at vlCells (l.set i vZ) (m / 3) (m % 3) (by simp; omega) (Nat.mod_lt _ (by decide))
    have hk0 := flat_at vlCells l (m / 3) (m % 3) (by omega) (Nat.mod_lt _ (by decide))
    have e : m / 3 * 3 + m % 3 = m := by omega
    rw [e] at hk hk0
    rw [hk]
    have hml : m < (l.flatMap Vl.cells).length := by rw [flat_len vlCells]; exact hm
    simp only [List.getElem?_set, List.length_set, List.getElem_set]
    by_cases hq : i = m / 3
    · have h3 : m % 3 = 0 ∨ m % 3 = 1 ∨ m % 3 = 2 := by omega
      rcases h3 with h3 | h3 | h3
      · rw [if_neg (by omega), if_neg (by omega), if_pos (by omega), if_pos (by omega), if_pos hq, h3]
        rfl
      · rw [if_neg (by omega), if_pos (by omega), if_pos (by omega), if_pos hq, h3]
        rfl
      · rw [if_pos (by omega), if_pos (by omega), if_pos hq, h3]
        rfl
    · rw [if_neg (by omega), if_neg (by omega), if_neg (by omega), if_neg hq]
      exact hk0
  · rw [List.getElem?_eq_none (by simp only [List.length_set]; rw [flat_len vlCells]; omega), List.getElem?_eq_none (by rw [flat_len vlCells, List.length_set]; omega)]

theorem vls_own {w : World} {B : Nat} {v : Value} {l : List Vl} (h : w.ownsRow B 33 3 v l.length (l.flatMap Vl.cells)) (hl : ∀ x ∈ l, x.ok) : ∃ a c, v = .slice a l.length c ∧ VlsIs w a c l := by
  obtain ⟨a, c, e, hs, _⟩ := SlAt.of_own vlCells h
  exact ⟨a, c, e, hs, hl⟩
theorem own_pos {w : World} {B n : Nat} {e : TypeId} {k : Nat} {v : Value} {xs : List Value} (h : w.ownsRow B e k v n xs) (hn : 0 < n) : ∃ g c, v = .slice (some ⟨g, 0, none⟩) n c ∧ B ≤ g ∧ g < w.heap.size := by
  have hlt := World.ownsRow.lt h
  obtain ⟨_, ⟨rfl, rfl⟩ | ⟨g, cap, cur, rfl, hb, hg, _⟩⟩ := h
  · omega
  · exact ⟨g, cap, rfl, hb, (hlt g rfl).2⟩

/-- make([]api.Value, n): as it is fitted. -/
theorem make_fits (n : Nat) (hn : n ≤ 1000) (w : World) : ∃ w', (Instr.makeSlice 23 (.int .i64 (n : Int)) (.int .i64 (n : Int))).run Tryd.prog w = .ok (.slice (some ⟨w.heap.size, 0, none⟩) n n) w' ∧ Below w.heap.size w w' ∧
    VlsIs w' (some ⟨w.heap.size, 0, none⟩) n (List.replicate n vZ) := by
  obtain ⟨i0, hi, hz0, hz1, hz2⟩ := info_partsK infoVl
  obtain ⟨w', hrun, hown, hg⟩ := run_make_full (P := Tryd.prog) w w.heap.size 23 33 i0 (.agg #[.int .u8 0, .int .i64 0, .string ⟨#[]⟩]) 3 Tryd.underlying23 hi hz0 hz1 .i64 .i64 n (by rw [hz2]; omega) (by unfold maxLen; omega) (Nat.le_refl _)
  rw [made_vals] at hown
  obtain ⟨a, c, e, hv⟩ := vls_own (l := List.replicate n vZ) (by rw [List.length_replicate]; exact hown) (fun x hx => by rw [(List.mem_replicate.1 hx).2]; exact okZ)
  rw [List.length_replicate] at e
  cases e
  exact ⟨w', hrun, (Below.refl _ _).grown hg (Nat.le_refl _) (fun k e => by cases e), hv⟩
end Go.Proofs.YteealadflekffaaDoor
