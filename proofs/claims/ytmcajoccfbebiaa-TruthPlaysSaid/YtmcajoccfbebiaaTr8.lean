/- held: does a support hold, by facts that are held already? -/
import Derived.Test.YtmcajoccfbebiaaTr7
namespace Go.Proofs.Ytmcajoccfbebiaa
open Go Go.RowKit Go.MapKept Go.Sort

theorem zero_unit (w : World) : (zeroValue 100).run Try.prog w = .ok (.agg #[]) w := by kernel_rfl

/-- Is an id in the set? -/
def inSet (lin : List (Int × Value)) (x : Int) : Bool := (look lin x).isSome
/-- Do all ids of a tuple stand in the set? -/
def allIn (lin : List (Int × Value)) (j : Jc) : Bool := j.tup.all (inSet lin)
/-- Does a support hold? -/
def holdsB (lin : List (Int × Value)) (p : Sp) : Bool := p.plain || p.js.any (allIn lin)

theorem imap_units {w : World} {b : Nat} {l : List (Int × Value)} (_h : IMap w b l) (hu : ∀ p ∈ l, p.2 = .agg #[]) (x : Int) : looked (.agg #[]) (look l x) = .tuple #[.agg #[], .bool (inSet l x)] := by
  unfold inSet look
  cases hf : l.find? (fun p => p.1 == x) with
  | none => rfl
  | some p =>
    have := hu p (List.mem_of_find?_eq_some hf)
    simp [looked, this]

set_option maxRecDepth 100000 in
set_option maxHeartbeats 1000000 in
theorem asks_holds (S : List Nat) (p3 mi : Nat) (lin : List (Int × Value)) (w : World) (hc : w.cell? ⟨p3, 0, none⟩ = some (.map (some mi))) (hm : IMap w mi lin) (hu : ∀ p ∈ lin, p.2 = .agg #[]) (hp3 : p3 ∉ S) (hmi : mi ∉ S) :
    AskJ S w 88 #[.pointer (some ⟨p3, 0, none⟩)] (allIn lin) := fun j V hV hj => by
  have hcV := (hV.cell (p := ⟨p3, 0, none⟩) (lt_of_cell hc) hp3).trans hc
  have hmV := hm.only hV hmi
  have hltV : p3 < V.heap.size := lt_of_cell hcV
  obtain ⟨r, t, x⟩ := j
  simp only at hj
  obtain ⟨xa, xc, rfl⟩ := hj.form
  have hlen := hj.1
  have hcW : Hid (∀ W, Below V.heap.size V W → W.cell? ⟨p3, 0, none⟩ = some (.map (some mi))) := hide fun W hW => (hW.cell (p := ⟨p3, 0, none⟩) hltV).trans hcV
  have hmW : Hid (∀ W, Below V.heap.size V W → IMap W mi lin) := hide fun W hW => hmV.only (Only.of_below hW []) (by simp)
  have hjW : Hid (∀ W, Below V.heap.size V W → NIs W (.slice xa t.length xc) t) := hide fun W hW => hj.below hW
  have HU := hide hu
  have hb0 : Below V.heap.size V (V.alloc (Obj.cells #[.int .i64 r, .slice xa t.length xc] 53)) := ((Only.refl [] V).alloc _).below
  have HB0 := hide hb0
  clear hc hm hu hp3 hmi hV hcV hmV hj hb0
  unfold Jc.val allIn
  go_enter Try.func88, Try.ntmps88
  go_wp2_with fail
  go_loopw [11] (fun vi wr => ∃ k : Nat, k ≤ t.length ∧ vi = .int .i64 k ∧ Hid (∀ j (h : j < t.length), j < k → inSet lin t[j] = true) ∧ Hid (Below V.heap.size V wr)) (fun vi _ => t.length - (intOf vi).toNat)
  case atStart => exact ⟨0, Nat.zero_le _, rfl, fun j h hj => absurd hj (by omega), HB0.out⟩
  case round =>
    obtain ⟨k, hk, rfl, hq, hb⟩ := hrel
    by_cases hlk : k < t.length
    · obtain ⟨g, off, cap, e, c0⟩ := nis_at (hjW.out wr hb.out) hlk
      injection e with e1 e2 e3
      subst e1 e3
      clear e2
      have cm := hcW.out wr hb.out
      have hlook := run_lookup (P := Try.prog) (t := 96) Try.underlying96 Try.underlying3 (hmW.out wr hb.out) (zero_unit _) t[k]
      rw [imap_units (hmW.out wr hb.out) HU.out] at hlook
      obtain ⟨z, hz⟩ : ∃ z, t[k] = z := ⟨_, rfl⟩
      rw [hz] at c0 hlook
      obtain ⟨p, hp⟩ : ∃ p, inSet lin z = p := ⟨_, rfl⟩
      rw [hp] at hlook
      have Hp : Hid (inSet lin t[k] = p) := hide (by rw [hz]; exact hp)
      clear hz hp
      cases p
      · go_wp2
        go_ret
        have hall : t.all (inSet lin) = false := by
          rw [List.all_eq_false]
          exact ⟨t[k], List.getElem_mem hlk, by rw [Hp.out]; simp⟩
        exact ⟨by rw [hall]; rfl, hb.out.alloc hb.out.size _⟩
      · go_wp2
        go_roundw
        case rel => exact ⟨k + 1, by omega, by go_num, fun j h hj => by
          rcases Nat.lt_or_ge j k with q | q
          · exact hq.out j h q
          · obtain rfl : j = k := by omega
            exact Hp.out, hb.out.alloc hb.out.size _⟩
        case measure => simp [intOf]; omega
    · obtain rfl : k = t.length := by omega
      have hall : t.all (inSet lin) = true := by
        rw [List.all_eq_true]
        intro z hz
        obtain ⟨j, hj, rfl⟩ := List.getElem_of_mem hz
        exact hq.out j hj hj
      have Hall := hide hall
      clear hall
      go_wp2
      go_ret
      exact ⟨by rw [Hall.out]; rfl, hb.out⟩

theorem eg_holds : ∀ args w, (callFunc 88 args).run Try.prog w = .ok (.enter 88 args) w := enters_of Try.func88 (by kernel_rfl) rfl

set_option maxRecDepth 100000 in
set_option maxHeartbeats 1000000 in
theorem held_any (mi : Nat) (lin : List (Int × Value)) (p : Sp) (w : World) (hm : IMap w mi lin) (hu : ∀ p ∈ lin, p.2 = .agg #[]) (hj : JsIs w p.v p.js) :
    Calls Try.prog 61 #[p.val, .map (some mi)] w fun e w' => e = .returned (.bool (holdsB lin p)) ∧ Below w.heap.size w w' := by
  obtain ⟨pi, pp, js, pv⟩ := p
  simp only at hj
  obtain ⟨pa, pc, rfl⟩ := hj.form
  have hb2 : Below w.heap.size w ((w.alloc (Obj.cells #[.bool pp, .slice pa js.length pc] 90)).alloc (Obj.cells #[.map (some mi)] 96)) := (((Only.refl [] w).alloc _).alloc _).below
  obtain ⟨h1, h2⟩ := (⟨heap_alloc2_old w _ _, heap_alloc2_new w _ _⟩ : ((w.alloc (Obj.cells #[.bool pp, .slice pa js.length pc] 90)).alloc (Obj.cells #[.map (some mi)] 96)).heap[w.heap.size]? = some (Obj.cells #[.bool pp, .slice pa js.length pc] 90) ∧ ((w.alloc (Obj.cells #[.bool pp, .slice pa js.length pc] 90)).alloc (Obj.cells #[.map (some mi)] 96)).heap[w.heap.size + 1]? = some (Obj.cells #[.map (some mi)] 96))
  have hc := containsJ_any 88 #[.pointer (some ⟨w.heap.size + 1, 0, none⟩)] (allIn lin) eg_holds _ js _ (hj.keeps (KeepsCells.below hb2)) (asks_holds [] (w.heap.size + 1) mi lin _ (cells1b h2).1 (hm.only (Only.of_below hb2 []) (by simp)) hu (by simp) (by simp))
  have Hc := hide hc
  have HB := hide hb2
  clear hc h1 h2 hb2 hm hu hj
  unfold Sp.val holdsB
  simp only
  cases pp
  · go_enter Try.func61, Try.ntmps61
    go_wp2_with fail
    (with_reducible refine Hc.out.mono ?_)
    rintro e V ⟨rfl, hb⟩
    have HF := hide (HB.out.trans (hb.mono HB.out.size))
    clear hb
    go_wp2
    go_ret
    exact ⟨by simp only [Bool.false_or]; rfl, HF.out⟩
  · go_enter Try.func61, Try.ntmps61
    go_wp2
    go_ret
    exact ⟨rfl, HB.out⟩
end Go.Proofs.Ytmcajoccfbebiaa
