/- Find, Slot: the program's, and the document's; slices.Index, Contains of strings. -/
import Derived.Test.YteealadflekffaaDoorTm3
namespace Go.Proofs.YteealadflekffaaDoor
open Go Go.RowKit Go.Lib

theorem bytes_inj {a b : ByteArray} (h : a.toList = b.toList) : a = b := by
  rw [ByteArray.toList_eq, ByteArray.toList_eq] at h
  cases a; cases b
  simpa using h

theorem heap_new (w : World) (o : Obj) : (w.alloc o).heap[w.heap.size]? = some o := by show (w.heap.push o)[w.heap.size]? = some o; simp
theorem beqS (a b : ByteArray) : (a.toList == b.toList) = decide (a = b) := by
  by_cases h : a = b
  · subst h; simp
  · rw [decide_eq_false h]
    simpa using fun e => h (bytes_inj e)
theorem cell1 {w : World} {b : Nat} {x : Value} {t : TypeId} (h : w.heap[b]? = some (.cells #[x] t (0, 0))) : w.cell? ⟨b, 0, none⟩ = some x := by
  simp [World.cell?, h]

theorem find1_any (t : Tpl) (name : ByteArray) (q : Nat) (V : World) (hc : V.cell? ⟨q, 0, none⟩ = some (.string name)) :
    Calls Tryd.prog 34 #[t.val, .pointer (some ⟨q, 0, none⟩)] V fun r V' => r = .returned (.bool (decide (t.name = name))) ∧ Below V.heap.size V V' := by
  have hq := lt_of_cell hc
  have hb := (Below.refl V.heap.size V).alloc (Nat.le_refl _) (.cells #[.string t.name, .slice t.a t.s.length t.c] 26)
  have hc1 := bcell hb hc
  have HB := hide hb
  unfold Tpl.val
  obtain ⟨nm, s, a, c⟩ := t
  simp only at hb hc1 HB ⊢
  clear hb
  go_enter Tryd.func34, Tryd.ntmps34
  go_wp2
  go_ret
  exact ⟨ret_bool (beqS _ _), HB.out⟩

theorem slot1_any (t : Slt) (name : ByteArray) (q : Nat) (V : World) (hc : V.cell? ⟨q, 0, none⟩ = some (.string name)) :
    Calls Tryd.prog 36 #[t.val, .pointer (some ⟨q, 0, none⟩)] V fun r V' => r = .returned (.bool (decide (t.n = name))) ∧ Below V.heap.size V V' := by
  have hq := lt_of_cell hc
  have hb := (Below.refl V.heap.size V).alloc (Nat.le_refl _) (.cells #[.string t.n, .int .u8 t.k] 39)
  have hc1 := bcell hb hc
  have HB := hide hb
  unfold Slt.val
  obtain ⟨nm, k⟩ := t
  simp only at hb hc1 HB ⊢
  clear hb
  go_enter Tryd.func36, Tryd.ntmps36
  go_wp2
  go_ret
  exact ⟨ret_bool (beqS _ _), HB.out⟩

/-- Where a template of a name stands. -/
def findI (l : List Tpl) (name : ByteArray) : Int := idxJ l fun t => decide (t.name = name)
/-- Where a slot of a name stands. -/
def slotI (l : List Slt) (name : ByteArray) : Int := idxJ l fun t => decide (t.n = name)

theorem find_any (a : Option Addr) (c : Nat) (l : List Tpl) (name : ByteArray) (w : World) (h : TplsIs w a c l) :
    Calls Tryd.prog 14 #[.slice a l.length c, .string name] w fun r w' => r = .returned (.int .i64 (findI l name)) ∧ Below w.heap.size w w' := by
  have hb := (Below.refl w.heap.size w).alloc (Nat.le_refl _) (.cells #[.string name] 9)
  have hcc := cell1 (heap_new w (.cells #[.string name] 9))
  have Hi := hide (indexT_any 34 #[.pointer (some ⟨w.heap.size, 0, none⟩)] (fun t => decide (t.name = name)) (enters_of Tryd.func34 (by kernel_rfl) rfl) a c l (w.alloc (.cells #[.string name] 9)) (h.below hb)
    fun t V _ hV => find1_any t name w.heap.size V (bcell hV hcc))
  have HB := hide hb
  have hlen := h.1.len
  clear h hb hcc
  unfold findI
  obtain ⟨i, hi⟩ : ∃ i, (idxJ l fun t => decide (t.name = name)) = i := ⟨_, rfl⟩
  rw [hi] at Hi ⊢
  clear hi
  go_enter Tryd.func14, Tryd.ntmps14
  go_wp2_with fail
  (with_reducible refine Hi.out.mono ?_)
  rintro r V ⟨rfl, hb⟩
  have HB1 := hide (HB.out.trans (hb.mono HB.out.size))
  clear hb
  go_wp2
  go_ret
  exact ⟨rfl, HB1.out⟩

theorem slot_any (t : Tpl) (name : ByteArray) (w : World) (h : TplIs w t) :
    Calls Tryd.prog 15 #[.agg #[.string t.name, .slice t.a t.s.length t.c], .string name] w fun r w' => r = .returned (.int .i64 (slotI t.s name)) ∧ Below w.heap.size w w' := by
  have hb0 := (Below.refl w.heap.size w).alloc (Nat.le_refl _) (.cells #[.string t.name, .slice t.a t.s.length t.c] 26)
  have hb := hb0.alloc (by simp) (.cells #[.string name] 9)
  have hcc := cell1 (heap_new (w.alloc (.cells #[.string t.name, .slice t.a t.s.length t.c] 26)) (.cells #[.string name] 9))
  rw [World.size_alloc] at hcc
  have Hi := hide (indexS_any 36 #[.pointer (some ⟨w.heap.size + 1, 0, none⟩)] (fun t => decide (t.n = name)) (enters_of Tryd.func36 (by kernel_rfl) rfl) t.a t.c t.s ((w.alloc (.cells #[.string t.name, .slice t.a t.s.length t.c] 26)).alloc (.cells #[.string name] 9)) (h.1.below hb)
    fun t V _ hV => slot1_any t name (w.heap.size + 1) V (bcell hV hcc))
  have HB := hide hb
  have hlen := h.1.1.len
  clear h hb hb0 hcc
  unfold slotI
  obtain ⟨nm, s, a, c⟩ := t
  simp only at Hi HB hlen ⊢
  obtain ⟨i, hi⟩ : ∃ i, (idxJ s fun t => decide (t.n = name)) = i := ⟨_, rfl⟩
  rw [hi] at Hi ⊢
  clear hi
  go_enter Tryd.func15, Tryd.ntmps15
  go_wp2_with fail
  (with_reducible refine Hi.out.mono ?_)
  rintro r V ⟨rfl, hb⟩
  have HB1 := hide (HB.out.trans (hb.mono (by have := HB.out.size; simpa using this)))
  clear hb
  go_wp2
  go_ret
  exact ⟨rfl, HB1.out⟩

/-- All that stand ahead are other ones: one more. -/
theorem ahead_succ {α : Type} {l : List α} {p : α → Bool} {k : Nat} (hq : ∀ j (h : j < l.length), j < k → p l[j] = false) (hk : k < l.length) (h : p l[k] = false) : ∀ j (h : j < l.length), j < k + 1 → p l[j] = false := fun j hj hjk => by
  rcases Nat.lt_or_ge j k with q | q
  · exact hq j hj q
  · obtain rfl : j = k := by omega
    exact h

set_option maxHeartbeats 1000000 in
theorem rfind_any (a : Option Addr) (c : Nat) (l : List Tpl) (name : ByteArray) (w : World) (h : TplsIs w a c l) :
    Calls Tryd.prog 21 #[.slice a l.length c, .string name] w fun r w' => r = .returned (.int .i64 (findI l name)) ∧ w = w' := by
  have hlen := h.1.len
  have H := hide h
  clear h
  unfold findI
  go_enter Tryd.func21, Tryd.ntmps21
  go_wp2
  go_loop [5] (fun vi => ∃ k : Nat, k ≤ l.length ∧ vi = .int .i64 k ∧ Hid (∀ j (h : j < l.length), j < k → decide (l[j].name = name) = false)) (fun i => l.length - (intOf i).toNat)
  case atStart => exact ⟨0, Nat.zero_le _, rfl, fun j h hj => absurd hj (by omega)⟩
  case round =>
    obtain ⟨k, hk, rfl, hq⟩ := hrel
    by_cases hlk : k < l.length
    · obtain ⟨g, off, rfl, c0, c1⟩ := H.out.at hlk
      by_cases he : l[k].name = name
      · have Hi := hide (idxJ_at (p := fun t : Tpl => decide (t.name = name)) hlk hq.out (decide_eq_true he))
        rw [he] at c0
        clear he
        go_wp2
        go_ret
        exact ⟨by rw [Hi.out]; rfl, rfl⟩
      · have Hs := hide (ahead_succ (p := fun t : Tpl => decide (t.name = name)) hq.out hlk (decide_eq_false he))
        obtain ⟨y, hy⟩ : ∃ y, l[k].name = y := ⟨_, rfl⟩
        rw [hy] at he c0
        have hne : (y.toList == name.toList) = false := by simpa using fun e => he (bytes_inj e)
        clear he hy
        go_wp2
        go_round
        case rel => exact ⟨k + 1, by omega, by go_num, Hs.out⟩
        case measure => simp [intOf]; omega
    · obtain rfl : k = l.length := by omega
      have Hi := hide (idxJ_none (p := fun t : Tpl => decide (t.name = name)) fun j h => hq.out j h h)
      go_wp2
      go_ret
      exact ⟨by rw [Hi.out]; rfl, rfl⟩

set_option maxHeartbeats 1000000 in
theorem rslot_any (t : Tpl) (name : ByteArray) (w : World) (h : TplIs w t) :
    Calls Tryd.prog 23 #[.agg #[.string t.name, .slice t.a t.s.length t.c], .string name] w fun r w' => r = .returned (.int .i64 (slotI t.s name)) ∧ Below w.heap.size w w' := by
  have hb := (Below.refl w.heap.size w).alloc (Nat.le_refl _) (.cells #[.string t.name, .slice t.a t.s.length t.c] 26)
  have H := hide (h.1.below hb)
  have HB := hide hb
  have hlen := h.1.1.len
  clear h hb
  unfold slotI
  obtain ⟨nm, l, a, c⟩ := t
  simp only at H HB hlen ⊢
  go_enter Tryd.func23, Tryd.ntmps23
  go_wp2
  go_loop [5] (fun vi => ∃ k : Nat, k ≤ l.length ∧ vi = .int .i64 k ∧ Hid (∀ j (h : j < l.length), j < k → decide (l[j].n = name) = false)) (fun i => l.length - (intOf i).toNat)
  case atStart => exact ⟨0, Nat.zero_le _, rfl, fun j h hj => absurd hj (by omega)⟩
  case round =>
    obtain ⟨k, hk, rfl, hq⟩ := hrel
    by_cases hlk : k < l.length
    · obtain ⟨g, off, rfl, c0, c1⟩ := H.out.at hlk
      have hg := lt_of_cell c0
      by_cases he : l[k].n = name
      · have Hi := hide (idxJ_at (p := fun t : Slt => decide (t.n = name)) hlk hq.out (decide_eq_true he))
        rw [he] at c0
        clear he
        go_wp2
        go_ret
        exact ⟨by rw [Hi.out]; rfl, HB.out⟩
      · have Hs := hide (ahead_succ (p := fun t : Slt => decide (t.n = name)) hq.out hlk (decide_eq_false he))
        obtain ⟨y, hy⟩ : ∃ y, l[k].n = y := ⟨_, rfl⟩
        rw [hy] at he c0
        have hne : (y.toList == name.toList) = false := by simpa using fun e => he (bytes_inj e)
        clear he hy
        go_wp2
        go_round
        case rel => exact ⟨k + 1, by omega, by go_num, Hs.out⟩
        case measure => simp [intOf]; omega
    · obtain rfl : k = l.length := by omega
      have Hi := hide (idxJ_none (p := fun t : Slt => decide (t.n = name)) fun j h => hq.out j h h)
      go_wp2
      go_ret
      exact ⟨by rw [Hi.out]; rfl, HB.out⟩

def strC (s : ByteArray) : List Value := [.string s]
/-- A slice of strings. -/
def StrsIs (w : World) (a : Option Addr) (c : Nat) (l : List ByteArray) : Prop := SlAt 1 strC w a c l
theorem StrsIs.at {w : World} {a : Option Addr} {c : Nat} {l : List ByteArray} (h : StrsIs w a c l) {i : Nat} (hi : i < l.length) :
    ∃ b off, a = some ⟨b, off, none⟩ ∧ w.cell? ⟨b, off + i, none⟩ = some (.string l[i]) := by
  obtain ⟨b, off, e, hc⟩ := SlAt.get h hi
  have := hc 0 _ rfl
  rw [Nat.mul_one, Nat.add_zero] at this
  exact ⟨b, off, e, this⟩

set_option maxHeartbeats 1000000 in
theorem indexStr_any (a : Option Addr) (c : Nat) (l : List ByteArray) (x : ByteArray) (w : World) (h : StrsIs w a c l) :
    Calls Tryd.prog 38 #[.slice a l.length c, .string x] w fun r w' => r = .returned (.int .i64 (idxJ l fun y => decide (x = y))) ∧ w = w' := by
  have hlen := SlAt.len h
  have H := hide h
  clear h
  go_enter Tryd.func38, Tryd.ntmps38
  go_wp2
  go_loop [8] (fun vi => ∃ k : Nat, k ≤ l.length ∧ vi = .int .i64 k ∧ Hid (∀ j (h : j < l.length), j < k → decide (x = l[j]) = false)) (fun i => l.length - (intOf i).toNat)
  case atStart => exact ⟨0, Nat.zero_le _, rfl, fun j h hj => absurd hj (by omega)⟩
  case round =>
    obtain ⟨k, hk, rfl, hq⟩ := hrel
    by_cases hlk : k < l.length
    · obtain ⟨g, off, rfl, c0⟩ := H.out.at hlk
      by_cases he : x = l[k]
      · have Hi := hide (idxJ_at (p := fun y => decide (x = y)) hlk hq.out (decide_eq_true he))
        rw [← he] at c0
        clear he
        go_wp2
        go_ret
        exact ⟨by rw [Hi.out]; rfl, rfl⟩
      · have Hs := hide (ahead_succ (p := fun y => decide (x = y)) hq.out hlk (decide_eq_false he))
        obtain ⟨y, hy⟩ : ∃ y, l[k] = y := ⟨_, rfl⟩
        rw [hy] at he c0
        have hne : (x.toList == y.toList) = false := by simpa using fun e => he (bytes_inj e)
        clear he hy
        go_wp2
        go_round
        case rel => exact ⟨k + 1, by omega, by go_num, Hs.out⟩
        case measure => simp [intOf]; omega
    · obtain rfl : k = l.length := by omega
      have Hi := hide (idxJ_none (p := fun y => decide (x = y)) fun j h => hq.out j h h)
      go_wp2
      go_ret
      exact ⟨by rw [Hi.out]; rfl, rfl⟩

theorem containsStr_any (a : Option Addr) (c : Nat) (l : List ByteArray) (x : ByteArray) (w : World) (h : StrsIs w a c l) :
    Calls Tryd.prog 43 #[.slice a l.length c, .string x] w fun r w' => r = .returned (.bool (l.any fun y => decide (x = y))) ∧ w = w' := by
  have Hi := hide (indexStr_any a c l x w h)
  have He := hide (idxJ_any l fun y => decide (x = y))
  clear h
  obtain ⟨i, hi⟩ : ∃ i, (idxJ l fun y => decide (x = y)) = i := ⟨_, rfl⟩
  rw [hi] at Hi He
  clear hi
  go_enter Tryd.func43, Tryd.ntmps43
  go_wp2_with fail
  (with_reducible refine Hi.out.mono ?_)
  rintro r V ⟨rfl, rfl⟩
  go_wp2
  go_ret
  exact ⟨by rw [← He.out]; rfl, rfl⟩
end Go.Proofs.YteealadflekffaaDoor
