/- Tokens: what is asked of an arena, with a token in a box beside it. -/
import Derived.Test.YtmcajoccfbebiaaTkC
namespace Go.Proofs.Ytmcajoccfbebiaa
open Go Go.RowKit Go.MapKept Go.Sort

/-- An arena, and a token in a box. -/
structure LSt (w0 V : World) (A : Ar) (T : List Tk) (last : Int) (k z : Nat) (t : Tk) : Prop where
  ast : ASt w0 V A T last k
  bz : V.heap[z]? = some (.cells #[.int .i64 t.id, .int .i64 t.parent, .int .i64 t.node, .int .i64 t.fact] 32 (0, 0))
section
variable {w0 V : World} {A : Ar} {T : List Tk} {last : Int} {k z : Nat} {t : Tk}
theorem LSt.below {V' : World} (h : LSt w0 V A T last k z t) (hb : Below V.heap.size V V') : LSt w0 V' A T last k z t := ⟨h.ast.below' hb, (hb.block z (lt_of_heap h.bz)).trans h.bz⟩
theorem ASt.k1000 (h : ASt w0 V A T last k) (hk : k ≤ 900) : last < 1000 := by have := h.le; omega
theorem ASt.kids (h : ASt w0 V A T last k) (n : Int) : Calls Try.prog 20 #[.pointer (some ⟨A.a, 0, none⟩), .int .i64 n] V fun e V' => ∃ a c, e = .returned (.slice a (ofG kG T n).length c) ∧ V'.ownsRow V.heap.size 3 1 (.slice a (ofG kG T n).length c) (ofG kG T n).length ((ofG kG T n).map (.int .i64)) ∧ Below V.heap.size V V' := by
  refine (tkids_any h.ar h.tree.asc n).mono ?_
  rintro e V' ⟨v, rfl, hr, hb⟩
  obtain ⟨a, c, rfl⟩ := row_form hr
  exact ⟨a, c, rfl, hr, hb⟩
theorem ASt.at' (h : ASt w0 V A T last k) (n : Int) : Calls Try.prog 22 #[.pointer (some ⟨A.a, 0, none⟩), .int .i64 n] V fun e V' => ∃ a c, e = .returned (.slice a (ofG aG T n).length c) ∧ V'.ownsRow V.heap.size 3 1 (.slice a (ofG aG T n).length c) (ofG aG T n).length ((ofG aG T n).map (.int .i64)) ∧ Below V.heap.size V V' := by
  refine (tat_any h.ar h.tree.asc n).mono ?_
  rintro e V' ⟨v, rfl, hr, hb⟩
  obtain ⟨a, c, rfl⟩ := row_form hr
  exact ⟨a, c, rfl, hr, hb⟩
theorem ASt.wit (h : ASt w0 V A T last k) (n : Int) : Calls Try.prog 23 #[.pointer (some ⟨A.a, 0, none⟩), .int .i64 n] V fun e V' => ∃ a c, e = .returned (.slice a (ofG wG T n).length c) ∧ V'.ownsRow V.heap.size 3 1 (.slice a (ofG wG T n).length c) (ofG wG T n).length ((ofG wG T n).map (.int .i64)) ∧ Below V.heap.size V V' := by
  refine (twith_any h.ar h.tree.asc n).mono ?_
  rintro e V' ⟨v, rfl, hr, hb⟩
  obtain ⟨a, c, rfl⟩ := row_form hr
  exact ⟨a, c, rfl, hr, hb⟩
theorem ASt.tuple (h : ASt w0 V A T last k) (hk : k ≤ 900) (n : Int) : Calls Try.prog 16 #[.pointer (some ⟨A.a, 0, none⟩), .int .i64 n] V fun e V' => ∃ a c, e = .returned (.slice a (tupT T last n).length c) ∧ V'.ownsRow V.heap.size 3 1 (.slice a (tupT T last n).length c) (tupT T last n).length ((tupT T last n).map (.int .i64)) ∧ Below V.heap.size V V' := by
  refine (ttuple_any h.ar h.tree (h.k1000 hk) n).mono ?_
  rintro e V' ⟨v, rfl, hr, hb⟩
  obtain ⟨a, c, rfl⟩ := row_form hr
  exact ⟨a, c, rfl, hr, hb⟩
theorem ASt.nis (h : ASt w0 V A T last k) {g : Tk → Option Int} {n : Int} {W : World} {B : Nat} {v : Value} (hr : W.ownsRow B 3 1 v (ofG g T n).length ((ofG g T n).map (.int .i64))) : NIs W v (ofG g T n) :=
  NIs.of_row (by have := ofG_len g T n; have := h.ar.len; omega) hr
/-- How often a number stands in a list that was told. -/
theorem ASt.inn (h : ASt w0 V A T last k) {g : Tk → Option Int} {n : Int} {B : Nat} {v : Value} (hr : V.ownsRow B 3 1 v (ofG g T n).length ((ofG g T n).map (.int .i64))) (i : Int) :
    Calls Try.prog 21 #[v, .int .i64 i] V fun e V' => e = .returned (.int .i64 (cnt (ofG g T n) i)) ∧ Below V.heap.size V V' := by
  refine (in_any v (ofG g T n) i V (h.nis hr) (ofG_asc h.tree.asc n)).mono ?_
  rintro e V' ⟨rfl, m, rfl⟩
  exact ⟨rfl, ((Only.refl [] V).drewN m).below⟩
theorem cnt_one {l : List Int} (ha : l.Pairwise (· < ·)) {n : Int} (hn : n ∈ l) : cnt l n = 1 := by
  unfold cnt
  induction l with
  | nil => cases hn
  | cons x l ih =>
    rw [List.pairwise_cons] at ha
    rcases List.mem_cons.1 hn with rfl | hn
    · have : l.filter (fun x => x == n) = [] := List.filter_eq_nil_iff.2 fun y hy => by
        have := ha.1 y hy
        simp
        omega
      simp [this]
    · have hx := ha.1 n hn
      have hne : (x == n) = false := by simp; omega
      rw [List.filter_cons, hne]
      simpa using ih ha.2 hn
theorem ASt.get (h : ASt w0 V A T last k) (n : Int) : Calls Try.prog 14 #[.pointer (some ⟨A.a, 0, none⟩), .int .i64 n] V fun e V' => e = .returned (.tuple #[((getT T n).getD noTk).val, .bool (getT T n).isSome]) ∧ Below V.heap.size V V' := tget_any h.ar n
theorem ASt.lenn (h : ASt w0 V A T last k) : Calls Try.prog 19 #[.pointer (some ⟨A.a, 0, none⟩)] V fun e V' => e = .returned (.int .i64 (T.length : Int)) ∧ Below V.heap.size V V' := by
  refine (tlen_any h.ar).mono ?_
  rintro e V' ⟨rfl, rfl⟩
  exact ⟨rfl, Below.refl _ _⟩
end

/-- How many are less. -/
def less (f : Tk → Int) (T : List Tk) (c : Int) : Nat := (T.filter fun t => decide (f t < c)).length
theorem less_succ (f : Tk → Int) (T : List Tk) (c : Int) : less f T (c + 1) = less f T c + (T.filter fun t => f t == c).length := by
  unfold less
  induction T with
  | nil => rfl
  | cons t T ih =>
    simp only [List.filter_cons]
    by_cases h1 : f t < c
    · have b1 : decide (f t < c) = true := by simpa using h1
      have b2 : decide (f t < c + 1) = true := by simp; omega
      have b3 : (f t == c) = false := by simp; omega
      simp only [b1, b2, b3, if_true, if_false, Bool.false_eq_true, List.length_cons, ih]
      omega
    · have b1 : decide (f t < c) = false := by simpa using h1
      by_cases h4 : f t = c
      · have b2 : decide (f t < c + 1) = true := by simp; omega
        have b3 : (f t == c) = true := by simpa using h4
        simp only [b1, b2, b3, if_true, if_false, Bool.false_eq_true, List.length_cons, ih]
        omega
      · have b2 : decide (f t < c + 1) = false := by simp; omega
        have b3 : (f t == c) = false := by simpa using h4
        simp only [b1, b2, b3, if_false, Bool.false_eq_true, ih]
section
variable {T : List Tk} {last : Int}
/-- A token's parent; 0's: below all. -/
def parG (t : Tk) : Int := if t.id = 0 then -5 else t.parent
theorem kids_count (T : List Tk) {c : Int} (hc : 0 ≤ c) : (T.filter fun t => parG t == c).length = (ofG kG T c).length := by
  unfold ofG
  rw [List.length_map]
  congr 1
  refine List.filter_congr fun t _ => ?_
  unfold parG kG
  by_cases h : t.id = 0
  · rw [if_pos h, if_pos h]
    have : ((-5 : Int) == c) = false := by simp; omega
    simp [this]
  · rw [if_neg h, if_neg h]
    simp
theorem TreeOk.ids_count (h : TreeOk T last) (c : Int) : (T.filter fun t => t.id == c).length = if (getT T c).isSome then 1 else 0 := by
  have he : (T.filter fun t => t.id == c).length = cnt (T.map Tk.id) c := by
    unfold cnt
    rw [List.filter_map, List.length_map]
    rfl
  rw [he]
  cases hg : getT T c with
  | none =>
    unfold cnt
    have : (T.map Tk.id).filter (fun x => x == c) = [] := List.filter_eq_nil_iff.2 fun y hy => by
      obtain ⟨t, ht, rfl⟩ := List.mem_map.1 hy
      simpa using getT_none hg t ht
    rw [this]
    rfl
  | some t =>
    obtain ⟨ht, e⟩ := getT_some hg
    exact cnt_one h.asc (List.mem_map.2 ⟨t, ht, e⟩)
theorem TreeOk.less_all (h : TreeOk T last) : less Tk.id T (last + 1) = T.length := by
  unfold less
  rw [List.filter_eq_self.2]
  intro t ht
  have := (h.ge t ht).2
  simp
  omega
theorem TreeOk.less_par (h : TreeOk T last) : less parG T 0 = 1 := by
  have h1 : less parG T 0 = (T.filter fun t => t.id == 0).length := by
    unfold less
    congr 1
    refine List.filter_congr fun t ht => ?_
    unfold parG
    by_cases e : t.id = 0
    · rw [if_pos e]
      simp [e]
    · rw [if_neg e]
      obtain ⟨p, hp, ep⟩ := h.par t ht e
      have := (h.ge p hp).1
      have e2 : (t.id == 0) = false := by simpa using e
      rw [e2]
      simp
      omega
  rw [h1, h.ids_count, show getT T 0 = some zeroTk from h.get h.zero]
  rfl
theorem TreeOk.less_par_all (h : TreeOk T last) : less parG T (last + 1) = T.length := by
  unfold less
  rw [List.filter_eq_self.2]
  intro t ht
  have := h.ge t ht
  have := h.lt t ht
  unfold parG
  split
  · simp; omega
  · simp; omega
theorem TreeOk.no_kids (h : TreeOk T last) {c : Int} (hg : getT T c = none) : ofG kG T c = [] := by
  refine List.eq_nil_iff_forall_not_mem.2 fun k hk => ?_
  obtain ⟨t, ht, h0, hp, _⟩ := kid_mem.1 hk
  obtain ⟨p, hpT, e⟩ := h.par t ht h0
  exact getT_none hg p hpT (e.trans hp)
theorem no_with (T : List Tk) : ofG wG T 0 = [] := by
  refine List.eq_nil_iff_forall_not_mem.2 fun k hk => ?_
  obtain ⟨t, ht, h0, _⟩ := ofG_mem.1 hk
  unfold wG at h0
  split at h0
  · rename_i q
    injection h0 with h0
    omega
  · cases h0
end
end Go.Proofs.Ytmcajoccfbebiaa
