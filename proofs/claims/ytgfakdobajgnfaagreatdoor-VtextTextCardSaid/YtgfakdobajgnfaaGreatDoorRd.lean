/- What the library's contracts read: three variables; strings as lists of bytes. -/
import Derived.Test.YtgfakdobajgnfaaGreatDoorV1
import Derived.Test.YtgfakdobajgnfaaGreatDoorVtL
import Derived.Test.YtgfakdobajgnfaaGreatDoorDl
namespace Go.Proofs.YtgfakdobajgnfaaGreatDoor
open Go Go.RowKit Go.Lib Go.Sort Go.Shelf

theorem var_below {w w' : World} {P : Program} {n : String} {cs : Array Value} (h : w.var? P n = some cs) (hb : Below w.heap.size w w') : w'.var? P n = some cs := by
  unfold World.var? at *
  cases hg : P.globalNamed n with
  | none => rw [hg] at h; cases h
  | some g =>
    rw [hg] at h
    simp only [Option.bind_some] at h ⊢
    cases ho : w.heap[g]? with
    | none => rw [ho] at h; cases h
    | some o =>
      rw [(hb.block g (lt_of_block ho)).trans ho]
      rw [ho] at h
      exact h
/-- What is read of the library's variables. -/
structure Rd (w : World) : Prop where
  ml : ∃ m, w.cell? ⟨0, 0, none⟩ = some (.int .i64 m)
  tab : Lib.TabIs Tryz.prog w "internal/strconv.uint64pow10" .u64 Lib.pow10Tab
  rng : ∃ ev, w.cell? ⟨3, 0, none⟩ = some ev ∧ (ev = .nilIface ∨ ∃ te pe, ev = .iface te pe)
  syn : ∃ ev, w.cell? ⟨2, 0, none⟩ = some ev ∧ (ev = .nilIface ∨ ∃ te pe, ev = .iface te pe)
theorem Rd.below {w w' : World} (h : Rd w) (hb : Below w.heap.size w w') : Rd w' :=
  ⟨h.ml.imp fun _ hm => bcell hb hm, var_below h.tab hb, h.rng.imp fun _ hm => ⟨bcell hb hm.1, hm.2⟩, h.syn.imp fun _ hm => ⟨bcell hb hm.1, hm.2⟩⟩
theorem below_grow (w : World) (k : Nat) (os : Array Obj) : Below w.heap.size w (grow (w.drewN k) os) :=
  ⟨rfl, rfl, rfl, by simp [grow, World.drewN], fun i hi => by
    have : i < (w.drewN k).heap.size := hi
    rw [heap_grow_old _ _ this]
    rfl⟩
end Go.Proofs.YtgfakdobajgnfaaGreatDoor
