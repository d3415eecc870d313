/- The plain law of names: each a name, none twice, each found where it stands. -/
import Derived.Test.YteealadflekffaaDoorTmOwn
namespace Go.Proofs.YteealadflekffaaDoor
open Go Go.RowKit Go.Lib

/-- A name at its place: a name, and none ahead of it is the same. -/
def nameAt (l : List ByteArray) (k : Nat) (h : k < l.length) : Prop := tnameB l[k] = true ∧ ∀ j (hj : j < k), l[j] ≠ l[k]
theorem namesGo_from (l : List ByteArray) : ∀ (n k : Nat), l.length = k + n → (namesGo (l.take k) (l.drop k) = true ↔ ∀ m (hm : m < l.length), k ≤ m → nameAt l m hm)
  | 0, k, h => by
    rw [List.drop_eq_nil_of_le (by omega)]
    exact ⟨fun _ m hm hk => by omega, fun _ => rfl⟩
  | n + 1, k, h => by
    have hk : k < l.length := by omega
    rw [namesGo_at hk, Bool.and_eq_true, namesGo_from l n (k + 1) (by omega), Bool.and_eq_true]
    have hany : (!((l.take k).any fun y => decide (l[k] = y))) = true ↔ ∀ j (hj : j < k), l[j] ≠ l[k] := by
      rw [Bool.not_eq_true', List.any_eq_false]
      constructor
      · intro q j hj e
        have hm : l[j] ∈ l.take k := by
          rw [List.mem_take_iff_getElem]
          exact ⟨j, by omega, rfl⟩
        have := q _ hm
        rw [e] at this
        simp at this
      · intro q y hy
        rw [List.mem_take_iff_getElem] at hy
        obtain ⟨j, hj, rfl⟩ := hy
        have := q j (by omega)
        simpa using fun e : l[k] = l[j] => this e.symm
    rw [hany]
    constructor
    · rintro ⟨⟨a, b⟩, c⟩ m hm hkm
      by_cases e : m = k
      · subst e
        exact ⟨a, b⟩
      · exact c m hm (by omega)
    · intro q
      exact ⟨⟨(q k hk (Nat.le_refl _)).1, (q k hk (Nat.le_refl _)).2⟩, fun m hm hkm => q m hm (by omega)⟩
theorem namesGo_iff (l : List ByteArray) : namesGo [] l = true ↔ ∀ m (hm : m < l.length), nameAt l m hm := by
  have := namesGo_from l l.length 0 (by omega)
  simp only [List.take_zero, List.drop_zero, Nat.zero_le, true_implies] at this
  exact this

theorem idx_first {α : Type} {l : List α} {p : α → Bool} {k : Nat} (hk : k < l.length) (hp : p l[k] = true) : idxJ l p = k ↔ ∀ j (hj : j < k), p l[j] = false := by
  constructor
  · intro h j hj
    unfold idxJ at h
    cases hf : l.findIdx? p with
    | none =>
      rw [hf] at h
      simp at h
    | some i =>
      rw [hf] at h
      simp only at h
      obtain ⟨hi, h1, h2⟩ := List.findIdx?_eq_some_iff_getElem.1 hf
      have : i = k := by omega
      subst this
      simpa using h2 j hj
  · intro h
    exact idxJ_at hk (fun j _ hjk => h j hjk) hp

theorem find_iff {L : List Tpl} {k : Nat} (hk : k < L.length) : findI L L[k].name = k ↔ ∀ j (hj : j < k), L[j].name ≠ L[k].name := by
  unfold findI
  rw [idx_first hk (p := fun t => decide (t.name = L[k].name)) (by simp)]
  simp
theorem slot_iff {l : List Slt} {k : Nat} (hk : k < l.length) : slotI l l[k].n = k ↔ ∀ j (hj : j < k), l[j].n ≠ l[k].n := by
  unfold slotI
  rw [idx_first hk (p := fun t => decide (t.n = l[k].n)) (by simp)]
  simp

/-- What the document asks of a slot. -/
def slotOk (l : List Slt) (k : Nat) (h : k < l.length) : Prop := tnameB l[k].n = true ∧ slotI l l[k].n = k ∧ 1 ≤ l[k].k ∧ l[k].k ≤ 5
/-- What the document asks of a template. -/
def tplOk (L : List Tpl) (k : Nat) (h : k < L.length) : Prop := tnameB L[k].name = true ∧ findI L L[k].name = k ∧ 1 ≤ L[k].s.length ∧ L[k].s.length ≤ 8 ∧ ∀ j (hj : j < L[k].s.length), slotOk L[k].s j hj

theorem one_iff (t : Tpl) : oneB t = true ↔ 1 ≤ t.s.length ∧ t.s.length ≤ 8 ∧ ∀ j (hj : j < t.s.length), slotOk t.s j hj := by
  unfold oneB
  simp only [Bool.and_eq_true, decide_eq_true_eq, Bool.not_eq_true', and_assoc]
  rw [namesGo_iff, List.any_eq_false]
  constructor
  · rintro ⟨a, b, c, d⟩
    refine ⟨a, b, fun j hj => ?_⟩
    have hn := c j (by simpa [snames] using hj)
    have hk := d _ (List.getElem_mem hj)
    simp only [decide_eq_true_eq, not_or] at hk
    refine ⟨?_, (slot_iff hj).2 fun i hi => ?_, by omega, by omega⟩
    · have := hn.1
      simpa [snames] using this
    · have := hn.2 i hi
      simpa [snames] using this
  · rintro ⟨a, b, c⟩
    refine ⟨a, b, fun j hj => ?_, fun s hs => ?_⟩
    · have hj' : j < t.s.length := by simpa [snames] using hj
      obtain ⟨h1, h2, _, _⟩ := c j hj'
      refine ⟨by simpa [snames] using h1, fun i hi => ?_⟩
      have := (slot_iff hj').1 h2 i hi
      simpa [snames] using this
    · obtain ⟨j, hj, rfl⟩ := List.getElem_of_mem hs
      obtain ⟨_, _, h3, h4⟩ := c j hj
      simp only [decide_eq_true_eq, not_or]
      omega

/-- The two say the same of which templates may be. -/
theorem may_iff (L : List Tpl) : tmayB L = true ↔ L.length ≤ 16 ∧ ∀ k (hk : k < L.length), tplOk L k hk := by
  unfold tmayB
  simp only [Bool.and_eq_true, decide_eq_true_eq, Bool.not_eq_true', and_assoc]
  rw [namesGo_iff, List.any_eq_false]
  constructor
  · rintro ⟨a, b, c⟩
    refine ⟨a, fun k hk => ?_⟩
    have hn := b k (by simpa [tnames] using hk)
    have ho := c _ (List.getElem_mem hk)
    rw [Bool.not_eq_true', Bool.not_eq_false] at ho
    obtain ⟨o1, o2, o3⟩ := (one_iff _).1 ho
    refine ⟨by simpa [tnames] using hn.1, (find_iff hk).2 fun i hi => ?_, o1, o2, o3⟩
    have := hn.2 i hi
    simpa [tnames] using this
  · rintro ⟨a, b⟩
    refine ⟨a, fun k hk => ?_, fun t ht => ?_⟩
    · have hk' : k < L.length := by simpa [tnames] using hk
      obtain ⟨h1, h2, _⟩ := b k hk'
      refine ⟨by simpa [tnames] using h1, fun i hi => ?_⟩
      have := (find_iff hk').1 h2 i hi
      simpa [tnames] using this
    · obtain ⟨k, hk, rfl⟩ := List.getElem_of_mem ht
      obtain ⟨_, _, h3, h4, h5⟩ := b k hk
      rw [(one_iff _).2 ⟨h3, h4, h5⟩]
      simp

theorem may_take {L : List Tpl} (h : tmayB L = true) (n : Nat) : tmayB (L.take n) = true := by
  rw [may_iff] at h ⊢
  obtain ⟨a, b⟩ := h
  refine ⟨by rw [List.length_take]; omega, fun k hk => ?_⟩
  have hk2 : k < L.length := by rw [List.length_take] at hk; omega
  obtain ⟨h1, h2, h3, h4, h5⟩ := b k hk2
  have he : (L.take n)[k] = L[k] := by simp
  refine ⟨by rw [he]; exact h1, (find_iff hk).2 fun j hj => ?_, by rw [he]; exact h3, by rw [he]; exact h4, ?_⟩
  · have := (find_iff hk2).1 h2 j hj
    simpa using this
  · simp only [he]
    exact h5

theorem SlAt.take {α : Type} {k : Nat} {cells : α → List Value} {w : World} {a : Option Addr} {c : Nat} {l : List α} (h : SlAt k cells w a c l) (n : Nat) : SlAt k cells w a c (l.take n) := by
  obtain ⟨h1, h2, ⟨b, off, rfl, h3⟩ | rfl⟩ := h
  · refine ⟨by rw [List.length_take]; omega, h2, .inl ⟨b, off, rfl, fun i hi j v hv => ?_⟩⟩
    have hi2 : i < l.length := by rw [List.length_take] at hi; omega
    exact h3 i hi2 j v (by simpa using hv)
  · exact ⟨by simp, h2, .inr (by simp)⟩
theorem TplsIs.take {w : World} {a : Option Addr} {c : Nat} {L : List Tpl} (h : TplsIs w a c L) (n : Nat) : TplsIs w a c (L.take n) := ⟨h.1.take n, fun t ht => h.2 t (List.mem_of_mem_take ht)⟩
end Go.Proofs.YteealadflekffaaDoor
