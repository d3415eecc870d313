/- Strings as lists of bytes. -/
import Derived.Test.YtgfakdobajgnfaaGreatDoorV0
import Derived.Lib.SmallJoins
import Derived.Lib.IndexBytes
namespace Go.Proofs.YtgfakdobajgnfaaGreatDoor
open Go Go.RowKit Go.Lib

/-- A string's bytes. -/
abbrev dl (s : ByteArray) : List UInt8 := s.data.toList
theorem dl_mk (l : List UInt8) : dl ⟨l.toArray⟩ = l := rfl
theorem dl_inj {s t : ByteArray} (h : dl s = dl t) : s = t := by
  obtain ⟨⟨a⟩⟩ := s
  obtain ⟨⟨b⟩⟩ := t
  simp only [dl] at h
  rw [h]
theorem dl_size (s : ByteArray) : (dl s).length = s.size := by simp [dl]
theorem dl_app (s t : ByteArray) : dl (s ++ t) = dl s ++ dl t := by
  show (s ++ t).data.toList = s.data.toList ++ t.data.toList
  simp
theorem dl_ext (s : ByteArray) (a b : Nat) : dl (s.extract a b) = ((dl s).drop a).take (b - a) := extract_data s a b
theorem dl_ext_end (s : ByteArray) (a : Nat) : dl (s.extract a s.size) = (dl s).drop a := extract_to_end s a
theorem mk_dl (s : ByteArray) : (⟨(dl s).toArray⟩ : ByteArray) = s := by
  obtain ⟨⟨l⟩⟩ := s
  rfl
theorem toList_dl (s : ByteArray) : s.toList = dl s := ByteArray.toList_eq s
theorem dl_get {s : ByteArray} {i : Nat} (h : i < s.size) : (dl s)[i]? = some s[i] := by
  have h' : i < (dl s).length := by rw [dl_size]; exact h
  rw [List.getElem?_eq_getElem h']
  rfl
theorem dl_head {s : ByteArray} (h : 0 < s.size) : (dl s).head? = some s[0] := by
  rw [List.head?_eq_getElem?]
  exact dl_get h
theorem ret_str {s t : ByteArray} (h : dl s = dl t) : Ending.returned (.string s) = .returned (.string t) := by rw [dl_inj h]
/-- A slot's string. -/
def strV : Value → ByteArray
  | .string s => s
  | _ => ByteArray.empty
end Go.Proofs.YtgfakdobajgnfaaGreatDoor
