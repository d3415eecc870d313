/- The arguments of witanlaw04's statements, opened; the table out of what the row lists. -/
import Derived.Test.YteealadflekffaaDoorTmArgs0
import Derived.Test.YteealadflekffaaDoorTm5
import Derived.Lib.LaidU8
import Derived.Lib.SmallJoins
namespace Go.Proofs.YteealadflekffaaDoor
open Go Go.ChangeShapes Go.WideShapes Go.ChangeAt Go.RowKit Go.Deep Go.Lib

theorem tab_of_reads {W : World} (h : Lib.VarReads Tryd.prog W "strings.asciiSpace" (Lib.tabData .u8 Lib.asciiSpaceTab)) : Tab W := by
  obtain ⟨g, t, cs, fuel, p, hg, ht, hv, hd⟩ := h
  obtain rfl : g = 0 := Option.some.inj (hg.symm.trans (show Tryd.prog.globalNamed "strings.asciiSpace" = some 0 by kernel_rfl))
  obtain rfl : t = 67 := Option.some.inj (ht.symm.trans (show (Tryd.prog.globals[0]?).map (·.type) = some 67 by kernel_rfl))
  have hT : Lib.TabIs Tryd.prog W "strings.asciiSpace" .u8 Lib.asciiSpaceTab := by
    unfold Lib.TabIs
    rw [hv, ← Lib.cells_of_tab Tryd.underlying67 Tryd.underlying5 (by kernel_rfl) (by kernel_rfl) hd]
  exact ⟨hT, lt_of_cell (hT.cell (g := 0) (by kernel_rfl) 0 (by rw [Lib.asciiSpaceTab_length]; omega))⟩
theorem asc_eq : Rows.laid_strings_asciiSpace = Lib.tabData (H := Unit) .u8 Lib.asciiSpaceTab := by kernel_rfl
end Go.Proofs.YteealadflekffaaDoor
