/- What the library's contracts read: three variables; strings as lists of bytes. -/
import Derived.Test.YtkjndabbkfbkaaaGreatDoorV1
import Derived.Test.YtkjndabbkfbkaaaGreatDoorVtL
import Derived.Lib.SmallJoins
import Derived.Lib.IndexBytes
namespace Go.Proofs.YtkjndabbkfbkaaaGreatDoor
open Go Go.RowKit Go.Lib Go.Sort Go.Shelf

theorem var_below {w w' : World} {P : Program} {n : String} {cs : Array Value} (h : w.var? P n = some cs) (hb : Below w.heap.size w w') : w'.var? P n = some cs := by
  unfold World.var? at *
  cases hg : P.globalNamed n with
  | none => rw [hg] at h; cases h
  | some g =>
    rw [hg] at h
    simp only [Option.bind_some] at h ⊢
    cases ho : w.heap[g]? with
    | none => rw [ho] at h; cases h
    | some o =>
      rw [(hb.block g (lt_of_block ho)).trans ho]
      rw [ho] at h
      exact h
/-- What is read of the library's variables. -/
structure Rd (w : World) : Prop where
  ml : ∃ m, w.cell? ⟨0, 0, none⟩ = some (.int .i64 m)
  tab : Lib.TabIs Tryz.prog w "internal/strconv.uint64pow10" .u64 Lib.pow10Tab
  rng : ∃ ev, w.cell? ⟨3, 0, none⟩ = some ev ∧ (ev = .nilIface ∨ ∃ te pe, ev = .iface te pe)
  syn : ∃ ev, w.cell? ⟨2, 0, none⟩ = some ev ∧ (ev = .nilIface ∨ ∃ te pe, ev = .iface te pe)
theorem Rd.below {w w' : World} (h : Rd w) (hb : Below w.heap.size w w') : Rd w' :=
  ⟨h.ml.imp fun _ hm => bcell hb hm, var_below h.tab hb, h.rng.imp fun _ hm => ⟨bcell hb hm.1, hm.2⟩, h.syn.imp fun _ hm => ⟨bcell hb hm.1, hm.2⟩⟩
theorem below_grow (w : World) (k : Nat) (os : Array Obj) : Below w.heap.size w (grow (w.drewN k) os) :=
  ⟨rfl, rfl, rfl, by simp [grow, World.drewN], fun i hi => by
    have : i < (w.drewN k).heap.size := hi
    rw [heap_grow_old _ _ this]
    rfl⟩

/-- A string's bytes. -/
abbrev dl (s : ByteArray) : List UInt8 := s.data.toList
theorem dl_mk (l : List UInt8) : dl ⟨l.toArray⟩ = l := rfl
theorem dl_inj {s t : ByteArray} (h : dl s = dl t) : s = t := by
  obtain ⟨⟨a⟩⟩ := s
  obtain ⟨⟨b⟩⟩ := t
  simp only [dl] at h
  rw [h]
theorem dl_size (s : ByteArray) : (dl s).length = s.size := by simp [dl]
theorem dl_app (s t : ByteArray) : dl (s ++ t) = dl s ++ dl t := by
  show (s ++ t).data.toList = s.data.toList ++ t.data.toList
  simp
theorem dl_ext (s : ByteArray) (a b : Nat) : dl (s.extract a b) = ((dl s).drop a).take (b - a) := extract_data s a b
theorem dl_ext_end (s : ByteArray) (a : Nat) : dl (s.extract a s.size) = (dl s).drop a := extract_to_end s a
theorem mk_dl (s : ByteArray) : (⟨(dl s).toArray⟩ : ByteArray) = s := by
  obtain ⟨⟨l⟩⟩ := s
  rfl
theorem toList_dl (s : ByteArray) : s.toList = dl s := ByteArray.toList_eq s
theorem dl_get {s : ByteArray} {i : Nat} (h : i < s.size) : (dl s)[i]? = some s[i] := by
  have h' : i < (dl s).length := by rw [dl_size]; exact h
  rw [List.getElem?_eq_getElem h']
  rfl
theorem dl_head {s : ByteArray} (h : 0 < s.size) : (dl s).head? = some s[0] := by
  rw [List.head?_eq_getElem?]
  exact dl_get h
theorem ret_str {s t : ByteArray} (h : dl s = dl t) : Ending.returned (.string s) = .returned (.string t) := by rw [dl_inj h]
end Go.Proofs.YtkjndabbkfbkaaaGreatDoor
