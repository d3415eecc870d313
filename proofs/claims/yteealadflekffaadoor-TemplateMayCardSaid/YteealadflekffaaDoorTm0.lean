/- Templates: what a slice of slots, of templates, of values reads as; slices.IndexFunc, ContainsFunc over them, whatever is asked. -/
import Derived.Test.YteealadflekffaaDoorProg
import Derived.WalkKit
import Derived.WalkLawsBesides
import Derived.WalkSpells
import Derived.Below
import Derived.RegionTactic
import Derived.BigQuiet
import Derived.Deep.QuietTactic
import Derived.Deep.RegionHeld3
import Derived.Deep.RegionLaw
namespace Go.Proofs.YteealadflekffaaDoor
open Go Go.RowKit

theorem hide {p : Prop} (h : p) : Hid p := h
theorem lt_of_cell {w : World} {p : Addr} {v : Value} (h : w.cell? p = some v) : p.block < w.heap.size := by
  simp only [World.cell?] at h
  cases hb : w.heap[p.block]? with
  | none => simp [hb] at h
  | some o => exact lt_of_block hb
theorem bcell {W w1 : World} (hb : Below W.heap.size W w1) {b o : Nat} {v : Value} (h : W.cell? ⟨b, o, none⟩ = some v) : w1.cell? ⟨b, o, none⟩ = some v :=
  (hb.cell (p := ⟨b, o, none⟩) (lt_of_cell h)).trans h

/-- A value. -/
structure Vl where
  k : Int
  n : Int
  s : ByteArray
  deriving DecidableEq
/-- A slot: its name, its kind. -/
structure Slt where
  n : ByteArray
  k : Int
/-- A template: its name, its slots, and the address and room of the slice that holds them. -/
structure Tpl where
  name : ByteArray
  s : List Slt
  a : Option Addr
  c : Nat

/-- The slice (a, its length, c) reads as l: k cells each. -/
def SlAt {α : Type} (k : Nat) (cells : α → List Value) (w : World) (a : Option Addr) (c : Nat) (l : List α) : Prop :=
  l.length ≤ c ∧ c ≤ 9223372036854775807 ∧ ((∃ b off, a = some ⟨b, off, none⟩ ∧ ∀ i (h : i < l.length) j v, (cells l[i])[j]? = some v → w.cell? ⟨b, off + i * k + j, none⟩ = some v) ∨ l = [])

theorem SlAt.below {α : Type} {k : Nat} {cells : α → List Value} {w w' : World} {a : Option Addr} {c : Nat} {l : List α} (h : SlAt k cells w a c l) (hb : Below w.heap.size w w') : SlAt k cells w' a c l := by
  obtain ⟨h1, h2, ⟨b, off, rfl, h3⟩ | rfl⟩ := h
  · exact ⟨h1, h2, .inl ⟨b, off, rfl, fun i hi j v hv => bcell hb (h3 i hi j v hv)⟩⟩
  · exact ⟨h1, h2, .inr rfl⟩
theorem SlAt.len {α : Type} {k : Nat} {cells : α → List Value} {w : World} {a : Option Addr} {c : Nat} {l : List α} (h : SlAt k cells w a c l) : l.length ≤ 9223372036854775807 := Nat.le_trans h.1 h.2.1
theorem SlAt.nil {α : Type} {k : Nat} {cells : α → List Value} (w : World) (a : Option Addr) {c : Nat} (hc : c ≤ 9223372036854775807) : SlAt k cells w a c [] := ⟨Nat.zero_le _, hc, .inr rfl⟩
theorem SlAt.get {α : Type} {k : Nat} {cells : α → List Value} {w : World} {a : Option Addr} {c : Nat} {l : List α} (h : SlAt k cells w a c l) {i : Nat} (hi : i < l.length) :
    ∃ b off, a = some ⟨b, off, none⟩ ∧ ∀ j v, (cells l[i])[j]? = some v → w.cell? ⟨b, off + i * k + j, none⟩ = some v := by
  obtain ⟨_, _, ⟨b, off, rfl, h3⟩ | rfl⟩ := h
  · exact ⟨b, off, rfl, h3 i hi⟩
  · simp at hi

def Vl.cells (v : Vl) : List Value := [.int .u8 v.k, .int .i64 v.n, .string v.s]
def Vl.val (v : Vl) : Value := .agg #[.int .u8 v.k, .int .i64 v.n, .string v.s]
def Slt.cells (s : Slt) : List Value := [.string s.n, .int .u8 s.k]
def Slt.val (s : Slt) : Value := .agg #[.string s.n, .int .u8 s.k]
def Tpl.x (t : Tpl) : Value := .slice t.a t.s.length t.c
def Tpl.cells (t : Tpl) : List Value := [.string t.name, t.x]
def Tpl.val (t : Tpl) : Value := .agg #[.string t.name, .slice t.a t.s.length t.c]

/-- The kind of a value is a byte. -/
def Vl.ok (v : Vl) : Prop := 0 ≤ v.k ∧ v.k ≤ 255 ∧ v.s.size ≤ 9223372036854775807
def Slt.ok (s : Slt) : Prop := 0 ≤ s.k ∧ s.k ≤ 255 ∧ s.n.size ≤ 9223372036854775807

/-- A slice of values. -/
def VlsIs (w : World) (a : Option Addr) (c : Nat) (l : List Vl) : Prop := SlAt 3 Vl.cells w a c l ∧ ∀ v ∈ l, v.ok
/-- A slice of slots. -/
def SltsIs (w : World) (a : Option Addr) (c : Nat) (l : List Slt) : Prop := SlAt 2 Slt.cells w a c l ∧ ∀ v ∈ l, v.ok
/-- A template's slots lie where it says. -/
def TplIs (w : World) (t : Tpl) : Prop := SltsIs w t.a t.c t.s ∧ t.name.size ≤ 9223372036854775807
/-- A slice of templates. -/
def TplsIs (w : World) (a : Option Addr) (c : Nat) (l : List Tpl) : Prop := SlAt 2 Tpl.cells w a c l ∧ ∀ t ∈ l, TplIs w t

theorem VlsIs.below {w w' : World} {a : Option Addr} {c : Nat} {l : List Vl} (h : VlsIs w a c l) (hb : Below w.heap.size w w') : VlsIs w' a c l := ⟨h.1.below hb, h.2⟩
theorem SltsIs.below {w w' : World} {a : Option Addr} {c : Nat} {l : List Slt} (h : SltsIs w a c l) (hb : Below w.heap.size w w') : SltsIs w' a c l := ⟨h.1.below hb, h.2⟩
theorem TplIs.below {w w' : World} {t : Tpl} (h : TplIs w t) (hb : Below w.heap.size w w') : TplIs w' t := ⟨h.1.below hb, h.2⟩
theorem TplsIs.below {w w' : World} {a : Option Addr} {c : Nat} {l : List Tpl} (h : TplsIs w a c l) (hb : Below w.heap.size w w') : TplsIs w' a c l := ⟨h.1.below hb, fun t ht => (h.2 t ht).below hb⟩

theorem VlsIs.at {w : World} {a : Option Addr} {c : Nat} {l : List Vl} (h : VlsIs w a c l) {i : Nat} (hi : i < l.length) :
    ∃ b off, a = some ⟨b, off, none⟩ ∧ w.cell? ⟨b, off + i * 3, none⟩ = some (.int .u8 l[i].k) ∧ w.cell? ⟨b, off + i * 3 + 1, none⟩ = some (.int .i64 l[i].n) ∧ w.cell? ⟨b, off + i * 3 + 2, none⟩ = some (.string l[i].s) := by
  obtain ⟨b, off, e, hc⟩ := h.1.get hi
  exact ⟨b, off, e, hc 0 _ rfl, hc 1 _ rfl, hc 2 _ rfl⟩
theorem SltsIs.at {w : World} {a : Option Addr} {c : Nat} {l : List Slt} (h : SltsIs w a c l) {i : Nat} (hi : i < l.length) :
    ∃ b off, a = some ⟨b, off, none⟩ ∧ w.cell? ⟨b, off + i * 2, none⟩ = some (.string l[i].n) ∧ w.cell? ⟨b, off + i * 2 + 1, none⟩ = some (.int .u8 l[i].k) := by
  obtain ⟨b, off, e, hc⟩ := h.1.get hi
  exact ⟨b, off, e, hc 0 _ rfl, hc 1 _ rfl⟩
theorem TplsIs.at {w : World} {a : Option Addr} {c : Nat} {l : List Tpl} (h : TplsIs w a c l) {i : Nat} (hi : i < l.length) :
    ∃ b off, a = some ⟨b, off, none⟩ ∧ w.cell? ⟨b, off + i * 2, none⟩ = some (.string l[i].name) ∧ w.cell? ⟨b, off + i * 2 + 1, none⟩ = some (.slice l[i].a l[i].s.length l[i].c) := by
  obtain ⟨b, off, e, hc⟩ := h.1.get hi
  exact ⟨b, off, e, hc 0 _ rfl, hc 1 _ rfl⟩

/-- Where the first one stands that is asked for. -/
def idxJ {α : Type} (l : List α) (p : α → Bool) : Int := match l.findIdx? p with | some i => i | none => -1
theorem idxJ_at {α : Type} {l : List α} {p : α → Bool} {k : Nat} (hk : k < l.length) (h0 : ∀ j (h : j < l.length), j < k → p l[j] = false) (h1 : p l[k] = true) : idxJ l p = k := by
  unfold idxJ
  rw [(List.findIdx?_eq_some_iff_getElem (p := p) (i := k)).2 ⟨hk, h1, fun j hj => by simpa using h0 j (by omega) hj⟩]
theorem idxJ_none {α : Type} {l : List α} {p : α → Bool} (h0 : ∀ j (h : j < l.length), p l[j] = false) : idxJ l p = -1 := by
  unfold idxJ
  rw [List.findIdx?_eq_none_iff.2 (fun e he => by obtain ⟨j, hj, rfl⟩ := List.getElem_of_mem he; exact h0 j hj)]
theorem idxJ_any {α : Type} (l : List α) (p : α → Bool) : decide (0 ≤ idxJ l p) = l.any p := by
  unfold idxJ
  cases h : l.findIdx? p with
  | none =>
    rw [List.findIdx?_eq_none_iff] at h
    have : l.any p = false := List.any_eq_false.2 fun x hx => by simpa using h x hx
    rw [this]
    rfl
  | some i =>
    obtain ⟨hi, hp, _⟩ := List.findIdx?_eq_some_iff_getElem.1 h
    have : l.any p = true := List.any_eq_true.2 ⟨l[i], List.getElem_mem hi, hp⟩
    rw [this]
    exact decide_eq_true (by show (0 : Int) ≤ (i : Int); omega)

/-- What is asked of a template of l, by a function value. -/
def AskT (l : List Tpl) (w : World) (fn : Nat) (caps : Array Value) (p : Tpl → Bool) : Prop :=
  ∀ (t : Tpl) (V : World), t ∈ l → Below w.heap.size w V → Calls Tryd.prog fn (#[t.val] ++ caps) V fun r V' => r = .returned (.bool (p t)) ∧ Below V.heap.size V V'
/-- What is asked of a slot of l. -/
def AskS (l : List Slt) (w : World) (fn : Nat) (caps : Array Value) (p : Slt → Bool) : Prop :=
  ∀ (t : Slt) (V : World), t ∈ l → Below w.heap.size w V → Calls Tryd.prog fn (#[t.val] ++ caps) V fun r V' => r = .returned (.bool (p t)) ∧ Below V.heap.size V V'

set_option maxHeartbeats 1000000 in
theorem indexT_any (fn : Nat) (caps : Array Value) (p : Tpl → Bool) (eg : ∀ args w, (callFunc fn args).run Tryd.prog w = .ok (.enter fn args) w) (a : Option Addr) (c : Nat) (l : List Tpl) (w : World) (h : TplsIs w a c l) (ha : AskT l w fn caps p) :
    Calls Tryd.prog 33 #[.slice a l.length c, .func (.func fn) #[] caps] w fun r w' => r = .returned (.int .i64 (idxJ l p)) ∧ Below w.heap.size w w' := by
  have hlen := h.1.len
  have H := hide h
  have HA := hide ha
  clear h ha
  go_enter Tryd.func33, Tryd.ntmps33
  go_wp2
  go_loopw [8] (fun vi wr => ∃ k : Nat, k ≤ l.length ∧ vi = .int .i64 k ∧ Hid (∀ j (h : j < l.length), j < k → p l[j] = false) ∧ Hid (Below w.heap.size w wr)) (fun i _ => l.length - (intOf i).toNat)
  case atStart => exact ⟨0, Nat.zero_le _, rfl, fun j h hj => absurd hj (by omega), Below.refl _ _⟩
  case round =>
    obtain ⟨k, hk, rfl, hq, hb⟩ := hrel
    by_cases hlk : k < l.length
    · have hr := H.out.below hb.out
      obtain ⟨g, off, rfl, c0, c1⟩ := hr.at hlk
      have hc := HA.out l[k] wr (List.getElem_mem hlk) hb.out
      unfold Tpl.val at hc
      have Hc := hide hc
      obtain ⟨q, hp⟩ : ∃ q, p l[k] = q := ⟨_, rfl⟩
      rw [hp] at Hc
      have Hp := hide hp
      clear hr hc hp
      go_wp2_with fail
      refine Hc.out.mono ?_
      rintro r w2 ⟨rfl, hb2⟩
      have HB2 := hide (hb.out.trans (hb2.mono hb.out.size))
      clear hb2
      cases q
      · go_wp2
        go_roundw
        case rel => exact ⟨k + 1, by omega, by go_num, fun j h hj => by
          rcases Nat.lt_or_ge j k with q | q
          · exact hq.out j h q
          · obtain rfl : j = k := by omega
            exact Hp.out, HB2.out⟩
        case measure => simp [intOf]; omega
      · go_wp2
        go_ret
        exact ⟨by rw [idxJ_at hlk hq.out Hp.out]; rfl, HB2.out⟩
    · obtain rfl : k = l.length := by omega
      go_wp2
      go_ret
      exact ⟨by rw [idxJ_none (fun j h => hq.out j h h)]; rfl, hb.out⟩

theorem containsT_any (fn : Nat) (caps : Array Value) (p : Tpl → Bool) (eg : ∀ args w, (callFunc fn args).run Tryd.prog w = .ok (.enter fn args) w) (a : Option Addr) (c : Nat) (l : List Tpl) (w : World) (h : TplsIs w a c l) (ha : AskT l w fn caps p) :
    Calls Tryd.prog 29 #[.slice a l.length c, .func (.func fn) #[] caps] w fun r w' => r = .returned (.bool (l.any p)) ∧ Below w.heap.size w w' := by
  have Hi := hide (indexT_any fn caps p eg a c l w h ha)
  have He := hide (idxJ_any l p)
  clear h ha
  obtain ⟨i, hi⟩ : ∃ i, idxJ l p = i := ⟨_, rfl⟩
  rw [hi] at Hi He
  clear hi
  go_enter Tryd.func29, Tryd.ntmps29
  go_wp2_with fail
  (with_reducible refine Hi.out.mono ?_)
  rintro r V ⟨rfl, hb⟩
  have HB := hide hb
  clear hb
  go_wp2
  go_ret
  exact ⟨by rw [← He.out]; rfl, HB.out⟩

set_option maxHeartbeats 1000000 in
theorem indexS_any (fn : Nat) (caps : Array Value) (p : Slt → Bool) (eg : ∀ args w, (callFunc fn args).run Tryd.prog w = .ok (.enter fn args) w) (a : Option Addr) (c : Nat) (l : List Slt) (w : World) (h : SltsIs w a c l) (ha : AskS l w fn caps p) :
    Calls Tryd.prog 35 #[.slice a l.length c, .func (.func fn) #[] caps] w fun r w' => r = .returned (.int .i64 (idxJ l p)) ∧ Below w.heap.size w w' := by
  have hlen := h.1.len
  have H := hide h
  have HA := hide ha
  clear h ha
  go_enter Tryd.func35, Tryd.ntmps35
  go_wp2
  go_loopw [8] (fun vi wr => ∃ k : Nat, k ≤ l.length ∧ vi = .int .i64 k ∧ Hid (∀ j (h : j < l.length), j < k → p l[j] = false) ∧ Hid (Below w.heap.size w wr)) (fun i _ => l.length - (intOf i).toNat)
  case atStart => exact ⟨0, Nat.zero_le _, rfl, fun j h hj => absurd hj (by omega), Below.refl _ _⟩
  case round =>
    obtain ⟨k, hk, rfl, hq, hb⟩ := hrel
    by_cases hlk : k < l.length
    · have hr := H.out.below hb.out
      obtain ⟨g, off, rfl, c0, c1⟩ := hr.at hlk
      have hc := HA.out l[k] wr (List.getElem_mem hlk) hb.out
      unfold Slt.val at hc
      have Hc := hide hc
      obtain ⟨q, hp⟩ : ∃ q, p l[k] = q := ⟨_, rfl⟩
      rw [hp] at Hc
      have Hp := hide hp
      clear hr hc hp
      go_wp2_with fail
      refine Hc.out.mono ?_
      rintro r w2 ⟨rfl, hb2⟩
      have HB2 := hide (hb.out.trans (hb2.mono hb.out.size))
      clear hb2
      cases q
      · go_wp2
        go_roundw
        case rel => exact ⟨k + 1, by omega, by go_num, fun j h hj => by
          rcases Nat.lt_or_ge j k with q | q
          · exact hq.out j h q
          · obtain rfl : j = k := by omega
            exact Hp.out, HB2.out⟩
        case measure => simp [intOf]; omega
      · go_wp2
        go_ret
        exact ⟨by rw [idxJ_at hlk hq.out Hp.out]; rfl, HB2.out⟩
    · obtain rfl : k = l.length := by omega
      go_wp2
      go_ret
      exact ⟨by rw [idxJ_none (fun j h => hq.out j h h)]; rfl, hb.out⟩

theorem containsS_any (fn : Nat) (caps : Array Value) (p : Slt → Bool) (eg : ∀ args w, (callFunc fn args).run Tryd.prog w = .ok (.enter fn args) w) (a : Option Addr) (c : Nat) (l : List Slt) (w : World) (h : SltsIs w a c l) (ha : AskS l w fn caps p) :
    Calls Tryd.prog 46 #[.slice a l.length c, .func (.func fn) #[] caps] w fun r w' => r = .returned (.bool (l.any p)) ∧ Below w.heap.size w w' := by
  have Hi := hide (indexS_any fn caps p eg a c l w h ha)
  have He := hide (idxJ_any l p)
  clear h ha
  obtain ⟨i, hi⟩ : ∃ i, idxJ l p = i := ⟨_, rfl⟩
  rw [hi] at Hi He
  clear hi
  go_enter Tryd.func46, Tryd.ntmps46
  go_wp2_with fail
  (with_reducible refine Hi.out.mono ?_)
  rintro r V ⟨rfl, hb⟩
  have HB := hide hb
  clear hb
  go_wp2
  go_ret
  exact ⟨by rw [← He.out]; rfl, HB.out⟩
end Go.Proofs.YteealadflekffaaDoor
