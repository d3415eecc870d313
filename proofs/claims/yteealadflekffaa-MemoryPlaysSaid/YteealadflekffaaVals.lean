/- Slices of api.Value: what such a slice reads as, and the contracts of slices.Equal and slices.Clone on them. -/
import Derived.Test.YteealadflekffaaChecked
import Derived.Test.YteealadflekffaaBase
import Derived.BigQuiet
import Derived.Deep.QuietTactic
namespace Go.Proofs.Yteealadflekffaa
open Go Go.RowKit Go.MapKept

/-- An api.Value. -/
structure Vl where
  k : Int
  n : Int
  s : ByteArray
  deriving DecidableEq

/-- Its cells. -/
def flat : List Vl → List Value
  | [] => []
  | v :: l => .int .u8 v.k :: .int .i64 v.n :: .string v.s :: flat l

theorem flat_length (l : List Vl) : (flat l).length = l.length * 3 := by
  induction l with
  | nil => rfl
  | cons v l ih => simp only [flat, List.length_cons, ih]; omega

theorem flat_get : ∀ (l : List Vl) (i : Nat) (h : i < l.length), (flat l)[i * 3]? = some (.int .u8 l[i].k) ∧ (flat l)[i * 3 + 1]? = some (.int .i64 l[i].n) ∧ (flat l)[i * 3 + 2]? = some (.string l[i].s)
  | [], i, h => by simp at h
  | v :: l, 0, _ => ⟨rfl, rfl, rfl⟩
  | v :: l, i + 1, h => by
    have := flat_get l i (by simpa using h)
    rw [show (i + 1) * 3 = i * 3 + 3 by omega, show i * 3 + 3 + 1 = i * 3 + 1 + 3 by omega, show i * 3 + 3 + 2 = i * 3 + 2 + 3 by omega]
    simpa [flat] using this

theorem flat_one (l : List Vl) : ∀ u ∈ flat l, u.oneCell' = true := by
  induction l with
  | nil => simp [flat]
  | cons v l ih =>
    intro u hu
    simp only [flat, List.mem_cons] at hu
    rcases hu with rfl | rfl | rfl | hu
    · rfl
    · rfl
    · rfl
    · exact ih u hu

/-- The values l lie in block b from cell off on. -/
def CellsAt (w : World) (b off : Nat) (l : List Vl) : Prop :=
  ∀ i (h : i < l.length), w.cell? ⟨b, off + i * 3, none⟩ = some (.int .u8 l[i].k) ∧ w.cell? ⟨b, off + i * 3 + 1, none⟩ = some (.int .i64 l[i].n) ∧ w.cell? ⟨b, off + i * 3 + 2, none⟩ = some (.string l[i].s)

theorem CellsAt.cells_of {w : World} {b off : Nat} {l : List Vl} (h : CellsAt w b off l) : ∀ j u, (flat l)[j]? = some u → w.cell? ⟨b, off + j, none⟩ = some u := by
  intro j u hu
  have hj : j < (flat l).length := (List.getElem?_eq_some_iff.1 hu).1
  rw [flat_length] at hj
  obtain ⟨i, hi, h3⟩ : ∃ i, i < l.length ∧ (j = i * 3 ∨ j = i * 3 + 1 ∨ j = i * 3 + 2) := ⟨j / 3, by omega, by omega⟩
  obtain ⟨g0, g1, g2⟩ := flat_get l i hi
  obtain ⟨c0, c1, c2⟩ := h i hi
  rcases h3 with rfl | rfl | rfl
  · rw [g0] at hu; cases hu; exact c0
  · rw [g1] at hu; cases hu; exact c1
  · rw [g2] at hu; cases hu; exact c2

theorem CellsAt.of_flat {w : World} {b off : Nat} {l : List Vl} (h : ∀ j u, (flat l)[j]? = some u → w.cell? ⟨b, off + j, none⟩ = some u) : CellsAt w b off l := fun i hi =>
  let ⟨g0, g1, g2⟩ := flat_get l i hi
  ⟨h _ _ g0, h _ _ g1, h _ _ g2⟩

theorem CellsAt.of_block {w w' : World} {b off : Nat} {l : List Vl} (h : CellsAt w b off l) (he : w'.heap[b]? = w.heap[b]?) : CellsAt w' b off l := fun i hi =>
  let ⟨g0, g1, g2⟩ := h i hi
  ⟨(World.cell?_of_block he).trans g0, (World.cell?_of_block he).trans g1, (World.cell?_of_block he).trans g2⟩

/-- x is a slice that reads as l. -/
def SlIs (w : World) (x : Value) (l : List Vl) : Prop :=
  l.length ≤ 1000000 ∧ ((∃ b off cap, x = .slice (some ⟨b, off, none⟩) l.length cap ∧ CellsAt w b off l) ∨ (l = [] ∧ (x = .slice none 0 0 ∨ ∃ a cap, x = .slice (some a) 0 cap)))

/-- The block of a slice. -/
def blkOf : Value → Option Nat
  | .slice (some a) _ _ => some a.block
  | _ => none

theorem SlIs.of_block {w w' : World} {x : Value} {l : List Vl} (h : SlIs w x l) (he : ∀ b, blkOf x = some b → w'.heap[b]? = w.heap[b]?) : SlIs w' x l := by
  obtain ⟨h1, h2⟩ := h
  refine ⟨h1, ?_⟩
  rcases h2 with ⟨b, off, cap, rfl, hc⟩ | h2
  · exact .inl ⟨b, off, cap, rfl, hc.of_block (he b rfl)⟩
  · exact .inr h2

theorem SlIs.form {w : World} {x : Value} {l : List Vl} (h : SlIs w x l) : ∃ a n c, x = .slice a n c := by
  obtain ⟨_, ⟨b, off, cap, rfl, _⟩ | ⟨_, rfl | ⟨a, cap, rfl⟩⟩⟩ := h <;> exact ⟨_, _, _, rfl⟩

theorem SlIs.nil_any {w w' : World} {x : Value} (h : SlIs w x []) : SlIs w' x [] := by
  obtain ⟨h1, ⟨b, off, cap, rfl, _⟩ | h2⟩ := h
  · exact ⟨h1, .inr ⟨rfl, .inr ⟨_, _, rfl⟩⟩⟩
  · exact ⟨h1, .inr h2⟩

theorem SlIs.lt {w : World} {x : Value} {l : List Vl} (h : SlIs w x l) (hl : l ≠ []) : ∃ b, blkOf x = some b ∧ b < w.heap.size := by
  obtain ⟨h1, h2⟩ := h
  rcases h2 with ⟨b, off, cap, rfl, hc⟩ | ⟨h2, _⟩
  · have : 0 < l.length := List.length_pos_iff.2 hl
    exact ⟨b, rfl, lt_of_cell (hc 0 this).1⟩
  · exact absurd h2 hl

theorem SlIs.blk_lt {w : World} {x : Value} {l : List Vl} (h : SlIs w x l) (hl : l ≠ []) {k : Nat} (hk : blkOf x = some k) : k < w.heap.size := by
  obtain ⟨b, hb, hlt⟩ := h.lt hl
  rw [hk] at hb
  cases hb
  exact hlt

theorem SlIs.only {w w' : World} {x : Value} {l : List Vl} {S : List Nat} (h : SlIs w x l) (ho : Only S w w') (hn : l ≠ [] → ∀ b, blkOf x = some b → b ∉ S) : SlIs w' x l := by
  by_cases hl : l = []
  · subst hl
    obtain ⟨h1, h2⟩ := h
    refine ⟨h1, ?_⟩
    rcases h2 with ⟨b, off, cap, rfl, _⟩ | h2
    · exact .inl ⟨b, off, cap, rfl, fun i hi => by simp at hi⟩
    · exact .inr h2
  · obtain ⟨b, hb, hlt⟩ := h.lt hl
    exact h.of_block fun b' hb' => by
      rw [hb] at hb'
      cases hb'
      exact ho.block b hlt (hn hl b hb)

theorem bytes_inj {a b : ByteArray} (h : a.toList = b.toList) : a = b := by
  rw [ByteArray.toList_eq, ByteArray.toList_eq] at h
  cases a; cases b
  simpa using h

theorem neq_vl (a b : Vl) (w : World) : (binOp .neq 28 (.agg #[.int .u8 a.k, .int .i64 a.n, .string a.s]) (.agg #[.int .u8 b.k, .int .i64 b.n, .string b.s])).run Try.prog w = .ok (.bool (decide (a ≠ b))) w := by
  by_cases h : a = b
  · subst h
    simp [go_sem]
  · have : a.k = b.k → a.n = b.n → ¬ a.s.toList = b.s.toList := fun h1 h2 h3 => h (by
      cases a; cases b
      simp only [Vl.mk.injEq]
      exact ⟨h1, h2, bytes_inj h3⟩)
    simp [go_sem]
    by_cases h1 : a.k = b.k
    · by_cases h2 : a.n = b.n
      · simp [h1, h2, this h1 h2, h]
      · simp [h2, h]
    · simp [h1, h]

set_option maxHeartbeats 400000 in
theorem equal_some (b off c b' off' c' : Nat) (l m : List Vl) (w : World) (hl : l.length ≤ 1000000) (hlm : m.length = l.length) (hc : CellsAt w b off l) (hc' : CellsAt w b' off' m) :
    Calls Try.prog 36 #[.slice (some ⟨b, off, none⟩) l.length c, .slice (some ⟨b', off', none⟩) l.length c'] w fun e w' => e = .returned (.bool (decide (l = m))) ∧ ∃ n, w' = w.drewN n := by
  go_enter Try.func36, Try.ntmps36
  have Hlm := hide hlm
  clear hlm
  go_wp2
  go_loopw [5, 13] (fun _ i wr => ∃ k : Nat, k ≤ l.length ∧ i = .int .i64 k ∧ Hid (l.take k = m.take k) ∧ ∃ n, wr = w.drewN n) (fun _ i _ => l.length - (intOf i).toNat)
  case atStart => exact ⟨0, Nat.zero_le _, rfl, rfl, 0, rfl⟩
  case round =>
    obtain ⟨k, hk, rfl, hrel, n, rfl⟩ := hrel
    by_cases hlt : k < l.length
    · have hlt' : k < m.length := by rw [Hlm.out]; exact hlt
      obtain ⟨c0, c1, c2⟩ := hc k hlt
      obtain ⟨d0, d1, d2⟩ := hc' k hlt'
      have hneq := neq_vl l[k] m[k]
      by_cases he : l[k] = m[k]
      · have he' : decide (l[k] ≠ m[k]) = false := by simpa using he
        have He := hide he
        rw [he'] at hneq
        clear he he'
        have i1 : (0 : Int) ≤ (k : Int) := by omega
        have i2 : (k : Int) < (l.length : Int) := by omega
        go_wp2_with fail
        go_quiet (fail)
        go_wp2
        go_roundw
        case rel => exact ⟨k + 1, by omega, by go_num, by
          have h := hrel.out
          rw [Hid, List.take_succ_eq_append_getElem hlt, List.take_succ_eq_append_getElem hlt', h, He.out], _, rfl⟩
        case measure => simp [intOf]; omega
      · have he' : decide (l[k] ≠ m[k]) = true := by simpa using he
        have He := hide he
        rw [he'] at hneq
        clear he he'
        have i1 : (0 : Int) ≤ (k : Int) := by omega
        have i2 : (k : Int) < (l.length : Int) := by omega
        go_wp2_with fail
        go_quiet (fail)
        go_wp2
        go_ret
        refine ⟨?_, _, World.drewN_drewN _ _ _⟩
        have h : ¬ l = m := fun e => He.out (by subst e; rfl)
        simp [h]
    · go_wp2
      go_ret
      refine ⟨?_, _, rfl⟩
      have hk' : k = l.length := by omega
      have h := hrel.out
      rw [hk', List.take_length, ← Hlm.out, List.take_length] at h
      simp [h]


theorem equal_any (x y : Value) (l m : List Vl) (w : World) (hx : SlIs w x l) (hy : SlIs w y m) :
    Calls Try.prog 36 #[x, y] w fun e w' => e = .returned (.bool (decide (l = m))) ∧ ∃ n, w' = w.drewN n := by
  have lens : ∀ (a a' : Option Addr) (n n' c c' : Nat), n ≤ 1000000 → n' ≤ 1000000 → n ≠ n' → l ≠ m → Calls Try.prog 36 #[.slice a n c, .slice a' n' c'] w fun e w' => e = .returned (.bool (decide (l = m))) ∧ ∃ n, w' = w.drewN n := by
    intro a a' n n' c c' h1 h2 hne hlm
    have hb : ((n : Int) == (n' : Int)) = false := by simp; omega
    have Hlm := hide hlm
    clear hlm
    go_enter Try.func36, Try.ntmps36
    go_wp2
    go_ret
    exact ⟨by simp [Hlm.out], 0, rfl⟩
  have zero : ∀ (a a' : Option Addr) (c c' : Nat), l = m → Calls Try.prog 36 #[.slice a 0 c, .slice a' 0 c'] w fun e w' => e = .returned (.bool (decide (l = m))) ∧ ∃ n, w' = w.drewN n := by
    intro a a' c c' hlm
    have Hlm := hide hlm
    clear hlm
    go_enter Try.func36, Try.ntmps36
    go_wp2
    go_loopw [5, 13] (fun _ i wr => i = .int .i64 0 ∧ wr = w) (fun _ _ _ => 0)
    case atStart => exact ⟨rfl, rfl⟩
    case round =>
      obtain ⟨rfl, rfl⟩ := hrel
      go_wp2
      go_ret
      exact ⟨by simp [Hlm.out], 0, rfl⟩
  obtain ⟨lx, hx⟩ := hx
  obtain ⟨ly, hy⟩ := hy
  rcases hx with ⟨b, off, cap, rfl, hc⟩ | ⟨rfl, hx⟩
  · rcases hy with ⟨b', off', cap', rfl, hc'⟩ | ⟨rfl, hy⟩
    · by_cases h : l.length = m.length
      · have := equal_some b off cap b' off' cap' l m w lx h.symm hc hc'
        rw [h] at this ⊢
        exact this
      · exact lens _ _ _ _ _ _ lx ly h fun e => h (by rw [e])
    · by_cases h : l = []
      · subst h
        rcases hy with rfl | ⟨a, c, rfl⟩
        · exact zero _ _ _ _ rfl
        · exact zero _ _ _ _ rfl
      · have hl : l.length ≠ 0 := fun e => h (List.eq_nil_of_length_eq_zero e)
        rcases hy with rfl | ⟨a, c, rfl⟩
        · exact lens _ _ _ _ _ _ lx (by omega) hl h
        · exact lens _ _ _ _ _ _ lx (by omega) hl h
  · rcases hy with ⟨b', off', cap', rfl, hc'⟩ | ⟨rfl, hy⟩
    · by_cases h : m = []
      · subst h
        rcases hx with rfl | ⟨a, c, rfl⟩
        · exact zero _ _ _ _ rfl
        · exact zero _ _ _ _ rfl
      · have hl : 0 ≠ m.length := fun e => h (List.eq_nil_of_length_eq_zero e.symm)
        rcases hx with rfl | ⟨a, c, rfl⟩
        · exact lens _ _ _ _ _ _ (by omega) ly hl (Ne.symm h)
        · exact lens _ _ _ _ _ _ (by omega) ly hl (Ne.symm h)
    · rcases hx with rfl | ⟨a, c, rfl⟩ <;> rcases hy with rfl | ⟨a', c', rfl⟩ <;> exact zero _ _ _ _ rfl


theorem vinfo : (Try.prog.info? 28).map (fun i => (i.zero, i.size, i.bytes)) = some (some (.agg #[.int .u8 0, .int .i64 0, .string ⟨#[]⟩]), 3, 32) := by kernel_rfl

theorem info_parts3 {P : Program} {e : TypeId} {z : Value} {n b : Nat} (h : (P.info? e).map (fun i => (i.zero, i.size, i.bytes)) = some (some z, n, b)) : ∃ i, P.info? e = some i ∧ i.zero = some z ∧ i.size = n ∧ i.bytes = b := by
  cases hi : P.info? e with
  | none => simp [hi] at h
  | some i =>
    simp [hi] at h
    exact ⟨i, rfl, h.1, h.2.1, h.2.2⟩

/-- A slice of this call's own: nil, or in a block that is new. -/
def Fresh (base : Nat) (x : Value) : Prop := x = .slice none 0 0 ∨ ∃ g n cap, x = .slice (some ⟨g, 0, none⟩) n cap ∧ base ≤ g

theorem SlIs.of_owns {w : World} {base n : Nat} {v : Value} {l : List Vl} (h : w.ownsRow base 28 3 v n (flat l)) (hl : l.length ≤ 1000000) (hn : n = l.length) : SlIs w v l ∧ Fresh base v := by
  subst hn
  rcases h.2 with ⟨rfl, h0⟩ | ⟨g, cap, cur, rfl, hb, hg, _, _, hcs, ht⟩
  · have : l = [] := List.eq_nil_of_length_eq_zero h0
    exact ⟨⟨hl, .inr ⟨this, .inl rfl⟩⟩, .inl rfl⟩
  · refine ⟨⟨hl, .inl ⟨g, 0, cap, rfl, CellsAt.of_flat fun j u hu => ?_⟩⟩, .inr ⟨g, _, cap, rfl, hb⟩⟩
    have hj : j < (flat l).length := (List.getElem?_eq_some_iff.1 hu).1
    rw [← ht, List.getElem?_take_of_lt (by rw [flat_length] at hj; exact hj)] at hu
    simpa [World.cell?, hg] using hu

set_option maxHeartbeats 400000 in
theorem clone_some (a : Addr) (c : Nat) (l : List Vl) (w : World) (hl : l.length ≤ 1000000) (hc : ∀ j u, (flat l)[j]? = some u → w.cell? (a.add j) = some u) :
    Calls Try.prog 52 #[.slice (some a) l.length c] w fun e w' => ∃ v, e = .returned v ∧ SlIs w' v l ∧ Fresh w.heap.size v ∧ Below w.heap.size w w' := by
  have Hc := hide hc
  clear hc
  have he : ∀ w : World, (binOp .eql 26 (.slice (some a) l.length c) (.slice none 0 0)).run Try.prog w = .ok (.bool false) w := fun w => Lib.run_eql_slice_nil w _ _ (some a) _ _ _ _ Try.underlying26
  obtain ⟨i0, hi, hz0, hz1, hz2⟩ := info_parts3 vinfo
  have hown : (w.alloc (.cells #[] 28)).ownsRow w.heap.size 28 3 (.slice (some ⟨w.heap.size, 0, none⟩) 0 0) 0 [] := World.ownsRow_made w #[] 0 (Nat.le_refl _) (by decide) rfl
  have hnews : ∀ j u, (flat l)[j]? = some u → (w.alloc (.cells #[] 28)).cell? (a.add j) = some u := fun j u hu =>
    ((Below.refl w.heap.size w).alloc (Nat.le_refl _) _).cell (lt_of_cell (Hc.out j u hu)) |>.trans (Hc.out j u hu)
  have Hown := hide hown
  have Hnews := hide hnews
  clear hown hnews
  go_enter Try.func52, Try.ntmps52
  go_wp2_with (at_builtin; refine wpList_append_own _ rfl _ _ 26 rfl w.heap.size 28 i0 (.agg #[.int .u8 0, .int .i64 0, .string ⟨#[]⟩]) 3 32 Try.underlying26 hi hz0 hz1 hz2 rfl (by decide) _ 0 [] rfl Hown.out a l.length c (flat l) rfl (flat_length l) Hnews.out (flat_one l) (by unfold maxLen; omega) (by omega) (by simp) ?_; intro v' w1 hown' hgrow hnil)
  go_ret
  obtain ⟨h1, h2⟩ := SlIs.of_owns (l := l) (by simpa using hown') hl (Nat.zero_add _)
  exact ⟨v', rfl, h1, h2, ((Below.refl w.heap.size w).alloc (Nat.le_refl _) _).grown hgrow (by simp) (fun k e => by cases e; exact Nat.le_refl _)⟩

theorem clone_any (x : Value) (l : List Vl) (w : World) (hx : SlIs w x l) :
    Calls Try.prog 52 #[x] w fun e w' => ∃ v, e = .returned v ∧ SlIs w' v l ∧ Fresh w.heap.size v ∧ Below w.heap.size w w' := by
  obtain ⟨hl, hx⟩ := hx
  rcases hx with ⟨b, off, cap, rfl, hc⟩ | ⟨rfl, rfl | ⟨a, cap, rfl⟩⟩
  · exact clone_some _ _ _ _ hl fun j u hu => by rw [Addr.add_lit]; exact hc.cells_of j u hu
  · have he : ∀ w : World, (binOp .eql 26 (.slice none 0 0) (.slice none 0 0)).run Try.prog w = .ok (.bool true) w := fun w => Lib.run_eql_slice_nil w _ _ none _ _ _ _ Try.underlying26
    go_enter Try.func52, Try.ntmps52
    go_wp2
    go_ret
    exact ⟨_, rfl, ⟨hl, .inr ⟨rfl, .inl rfl⟩⟩, .inl rfl, Below.refl _ _⟩
  · exact clone_some a cap [] w hl fun j u hu => by simp [flat] at hu

end Go.Proofs.Yteealadflekffaa
