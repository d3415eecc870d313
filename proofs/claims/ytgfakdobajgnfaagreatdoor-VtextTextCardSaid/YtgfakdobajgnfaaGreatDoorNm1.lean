/- num (the document's): digits as they lie; trim, up. -/
import Derived.Test.YtgfakdobajgnfaaGreatDoorDg
import Derived.Test.YtgfakdobajgnfaaGreatDoorOwn3
import Derived.Laws.EntriesVeiled
import Derived.Deep.AppendLies
import Derived.BigQuiet
namespace Go.Proofs.YtgfakdobajgnfaaGreatDoor
open Go Go.RowKit Go.Lib

/-- The slice v reads as digits. -/
def DgRd (w : World) (v : Value) (l : List Nat) : Prop := l.length ≤ 1000000 ∧ ∃ a c, v = .slice a l.length c ∧ l.length ≤ c ∧ ∀ i (h : i < l.length), ∃ b off, a = some ⟨b, off, none⟩ ∧ w.cell? ⟨b, off + i, none⟩ = some (.int .i64 (l[i] : Int))
theorem DgRd.below {w w' : World} {v : Value} {l : List Nat} (h : DgRd w v l) (hb : Below w.heap.size w w') : DgRd w' v l := by
  obtain ⟨h1, a, c, h2, h3, h4⟩ := h
  refine ⟨h1, a, c, h2, h3, fun i hi => ?_⟩
  obtain ⟨b, off, e, hc⟩ := h4 i hi
  exact ⟨b, off, e, bcell hb hc⟩
theorem DgRd.slice {w : World} {v : Value} {l : List Nat} (h : DgRd w v l) : ∃ a c, v = .slice a l.length c ∧ l.length ≤ c := by
  obtain ⟨_, a, c, h2, h3, _⟩ := h
  exact ⟨a, c, h2, h3⟩
theorem DgRd.at {w : World} {a : Option Addr} {n c : Nat} {l : List Nat} (h : DgRd w (.slice a n c) l) {i : Nat} (hi : i < l.length) : ∃ b off, a = some ⟨b, off, none⟩ ∧ w.cell? ⟨b, off + i, none⟩ = some (.int .i64 (l[i] : Int)) := by
  obtain ⟨_, a', c', h2, _, h4⟩ := h
  injection h2 with h2
  subst h2
  exact h4 i hi
theorem DgRd.nil (w : World) : DgRd w (.slice none 0 0) [] := ⟨by simp, none, 0, rfl, Nat.le_refl _, fun i hi => absurd hi (by simp)⟩
theorem DgRd.take {w : World} {a : Option Addr} {n c : Nat} {l : List Nat} (h : DgRd w (.slice a n c) l) {k : Nat} (hk : k ≤ l.length) : DgRd w (.slice a k c) (l.take k) := by
  obtain ⟨h1, a', c', h2, h3, h4⟩ := h
  injection h2 with e1 e2 e3
  subst e1 e3
  have hl : (l.take k).length = k := by rw [List.length_take]; omega
  refine ⟨by omega, a, c, by rw [hl], by omega, fun i hi => ?_⟩
  obtain ⟨b, off, e, hc⟩ := h4 i (by omega)
  refine ⟨b, off, e, ?_⟩
  rw [hc]
  simp
def dnums (l : List Nat) : List Value := l.map fun (k : Nat) => Value.int .i64 (k : Int)
theorem dnums_snoc (l : List Nat) (x : Nat) : dnums (l ++ [x]) = dnums l ++ [.int .i64 (x : Int)] := by simp [dnums]
theorem DgRd.of_row {w : World} {B n : Nat} {v : Value} {l : List Nat} (hl : l.length ≤ 1000000) (hn : n = l.length) (h : w.ownsRow B 3 1 v n (dnums l)) : DgRd w v l := by
  subst hn
  rcases h.2 with ⟨e, h0⟩ | ⟨g, cap, cur, rfl, _, hg, hc, _⟩
  · have : l = [] := List.eq_nil_of_length_eq_zero h0
    subst this
    rw [e]
    exact DgRd.nil w
  · refine ⟨hl, some ⟨g, 0, none⟩, cap, rfl, hc, fun i hi => ⟨g, 0, rfl, ?_⟩⟩
    have := h.cells (g := g) rfl i (.int .i64 (l[i] : Int)) (by simp [dnums, hi])
    rw [Addr.add_lit, Nat.zero_add] at this
    rw [Nat.zero_add]
    exact this
theorem below_grown' {B : Nat} {a b c : World} {v : Value} (h : Below B a b) (hg : b.grownBy c v.ownBlock) (hv : ∀ g, v.ownBlock = some g → B ≤ g) (hB : B ≤ b.heap.size) : Below B a c :=
  below_only h (Only.of_grown hg v.ownBlock.toList fun k hk => by simp [hk]) (fun i hi => hv i (by simpa using hi)) hB
theorem dinfo : (Tryz.prog.info? 3).map (fun i => (i.zero, i.size, i.bytes)) = some (some (.int .i64 0), 1, 8) := by kernel_rfl
theorem dinfo_parts : ∃ i, Tryz.prog.info? 3 = some i ∧ i.zero = some (.int .i64 0) ∧ i.size = 1 ∧ i.bytes = 8 := by
  have h := dinfo
  cases hi : Tryz.prog.info? 3 with
  | none => simp [hi] at h
  | some i =>
    simp [hi] at h
    exact ⟨i, rfl, h.1, h.2.1, h.2.2⟩
/-- The value v is a number. -/
def NumIs (w : World) (v : Value) (z : Int) : Prop := ∃ s, v = .agg #[.bool (decide (z < 0)), s] ∧ DgRd w s (dg z.natAbs)
theorem NumIs.below {w w' : World} {v : Value} {z : Int} (h : NumIs w v z) (hb : Below w.heap.size w w') : NumIs w' v z := by
  obtain ⟨s, h1, h2⟩ := h
  exact ⟨s, h1, h2.below hb⟩
/-- A number of a sign. -/
def sgn (neg : Bool) (n : Nat) : Int := if neg then -(n : Int) else n
theorem sgn_abs (b : Bool) (n : Nat) : (sgn b n).natAbs = n := by unfold sgn; split <;> simp
theorem sgn_neg (b : Bool) (n : Nat) : decide (sgn b n < 0) = (b && decide (0 < n)) := by
  unfold sgn
  cases b <;> simp <;> omega
theorem last_take {l : List Nat} {k : Nat} (hk : k < l.length) (h0 : l[k] ≠ 0) : ∀ h : l.take (k + 1) ≠ [], (l.take (k + 1)).getLast h ≠ 0 := fun h => by
  have : ∀ m, m = l.take k ++ [l[k]] → ∀ h : m ≠ [], m.getLast h ≠ 0 := by
    rintro m rfl h
    rw [List.getLast_concat]
    exact h0
  exact this _ (List.take_succ_eq_append_getElem hk) h
theorem two_cells' {w : World} {b : Nat} {x y : Value} {t : TypeId} (h : w.heap[b]? = some (.cells #[x, y] t (0, 0))) : w.cell? ⟨b, 0, none⟩ = some x ∧ w.cell? ⟨b, 1, none⟩ = some y ∧ ∀ i, w.frozen? ⟨b, i, none⟩ = false :=
  ⟨by simp only [World.cell?, h]; rfl, by simp only [World.cell?, h]; rfl, fun i => by simp only [World.frozen?, h]; simp⟩
/-- What trim tells: the row that was given, shorter. -/
def TrimKeep (a : Option Addr) (c : Nat) (z : Int) (e : Ending) (w' : World) : Prop := ∃ (k : Nat) (b : Bool), e = .returned (.agg #[.bool b, .slice a k c]) ∧ NumIs w' (.agg #[.bool b, .slice a k c]) z
theorem TrimKeep.mk {a : Option Addr} {k c : Nat} {b : Bool} {z : Int} {w' : World} (h : NumIs w' (.agg #[.bool b, .slice a k c]) z) : TrimKeep a c z (.returned (.agg #[.bool b, .slice a k c])) w' := ⟨k, b, rfl, h⟩
set_option maxRecDepth 100000 in
set_option maxHeartbeats 4000000 in
theorem trim_keeps {w : World} {a : Option Addr} {n c : Nat} {l : List Nat} (neg : Bool) (hs : DgRd w (.slice a n c) l) (ho : okD l) :
    Calls Tryz.prog 125 #[.bool neg, .slice a n c] w fun e w' => TrimKeep a c (sgn neg (nv l)) e w' ∧ Below w.heap.size w w' := by
  have hlm := hs.1
  obtain ⟨a', c', he, hc⟩ := hs.slice
  injection he with e1 e2 e3
  subst e1
  subst e2
  subst e3
  obtain ⟨W1, hW1⟩ : ∃ W1, w.alloc (.cells #[.bool false, .slice none 0 0] 79) = W1 := ⟨_, rfl⟩
  have hp1 := heap_alloc0 w (.cells #[.bool false, .slice none 0 0] 79)
  have hb1 : Below w.heap.size w W1 := by rw [← hW1]; exact (Below.refl _ w).alloc (Nat.le_refl _) _
  rw [hW1] at hp1
  have hs1 := hs.below hb1
  have HS := hide hs1
  have HW := hide hs
  have HO := hide ho
  have HB := hide hb1
  have HP := hide hp1
  have HR : Hid (nv (l.take l.length) = nv l) := hide (by rw [List.take_length])
  clear hs ho hb1 hp1 hs1
  go_enter Tryz.func125, Tryz.ntmps125
  go_wp2_with fail
  go_loop [1] (fun v1 => ∃ k : Nat, k ≤ l.length ∧ v1 = .slice a k c ∧ Hid (nv (l.take k) = nv l)) (fun v1 => match v1 with | .slice _ k _ => k | _ => 0)
  case atStart => exact ⟨l.length, Nat.le_refl _, rfl, HR⟩
  case round =>
    obtain ⟨k, hk, rfl, hq⟩ := hrel
    obtain ⟨x0, x1, xf⟩ := two_cells' HP.out
    have xf0 := xf 0
    have xf1 := xf 1
    by_cases h0 : k = 0
    · subst h0
      have hz : nv l = 0 := by have := hq.out; rw [List.take_zero] at this; exact this.symm
      have HN : Hid (NumIs w (.agg #[.bool false, .slice a 0 c]) (sgn neg (nv l))) := hide ⟨.slice a 0 c, by rw [sgn_neg, hz]; simp, by
        rw [sgn_abs, hz, dg_zero]
        have := HW.out.take (k := 0) (Nat.zero_le _)
        rw [List.take_zero] at this
        exact this⟩
      clear hq hz xf HR
      cases neg with
      | true =>
        go_wp2_with fail
        refine bodyPost_ret (v := .agg #[.bool false, .slice a 0 c]) (by simp [results, Tryz.results125, go_sem, *]) rfl ⟨TrimKeep.mk ?_, (HB.out.setCell (Nat.le_refl _) _).setCell (Nat.le_refl _) _⟩
        exact HN.out.below ((HB.out.setCell (Nat.le_refl _) _).setCell (Nat.le_refl _) _)
      | false =>
        go_wp2_with fail
        refine bodyPost_ret (v := .agg #[.bool false, .slice a 0 c]) (by simp [results, Tryz.results125, go_sem, *]) rfl ⟨TrimKeep.mk ?_, (HB.out.setCell (Nat.le_refl _) _).setCell (Nat.le_refl _) _⟩
        exact HN.out.below ((HB.out.setCell (Nat.le_refl _) _).setCell (Nat.le_refl _) _)
    · obtain ⟨m, rfl⟩ : ∃ m, k = m + 1 := ⟨k - 1, by omega⟩
      have hml : m < l.length := by omega
      obtain ⟨b, off, rfl, hcell⟩ := HS.out.at hml
      have j1 : decide ((0 : Int) < ((m + 1 : Nat) : Int)) = true := decide_eq_true (by omega)
      have j2 : decide ((0 : Int) < (m : Int) + 1) = true := decide_eq_true (by omega)
      have j3 : ((m + 1 : Nat) : Int) - 1 = (m : Int) := by omega
      obtain ⟨d, hd⟩ : ∃ d, l[m] = d := ⟨_, rfl⟩
      rw [hd] at hcell
      have j4 : (0 : Int) ≤ (m : Int) := by omega
      have j5 : m + 1 ≤ c := by omega
      by_cases hd0 : d = 0
      · subst hd0
        have HQ : Hid (nv (l.take m) = nv l) := hide (by rw [← hq.out, nv_take_succ l m hml, hd]; simp)
        have j6 : (m : Int) < ((m + 1 : Nat) : Int) := by omega
        have j7 : m ≤ c := by omega
        clear hq hd xf
        go_wp2_with fail
        go_round
        case rel => exact ⟨m, by omega, rfl, HQ⟩
        case measure => simp
      · have hnz := last_take hml (by rw [hd]; exact hd0)
        have hdg : dg (nv l) = l.take (m + 1) := by rw [← hq.out]; exact dg_nv _ (ok_take HO.out _) hnz
        have hpos : 0 < nv l := by
          refine Nat.pos_of_ne_zero fun h => ?_
          rw [h, dg_zero] at hdg
          have := congrArg List.length hdg
          rw [List.length_take] at this
          simp at this
          omega
        have HN : Hid (NumIs w (.agg #[.bool neg, .slice (some ⟨b, off, none⟩) (m + 1) c]) (sgn neg (nv l))) := hide ⟨.slice (some ⟨b, off, none⟩) (m + 1) c, by rw [sgn_neg]; simp [hpos], by
          rw [sgn_abs, hdg]
          exact HW.out.take (by omega)⟩
        have j6 : ((d : Int) == 0) = false := by simp; omega
        clear hq hd xf hnz hdg hpos hd0
        cases neg with
        | true =>
          go_wp2_with fail
          refine bodyPost_ret (v := .agg #[.bool true, .slice (some ⟨b, off, none⟩) (m + 1) c]) (by simp [results, Tryz.results125, go_sem, *]) rfl ⟨TrimKeep.mk ?_, (HB.out.setCell (Nat.le_refl _) _).setCell (Nat.le_refl _) _⟩
          exact HN.out.below ((HB.out.setCell (Nat.le_refl _) _).setCell (Nat.le_refl _) _)
        | false =>
          go_wp2_with fail
          refine bodyPost_ret (v := .agg #[.bool false, .slice (some ⟨b, off, none⟩) (m + 1) c]) (by simp [results, Tryz.results125, go_sem, *]) rfl ⟨TrimKeep.mk ?_, (HB.out.setCell (Nat.le_refl _) _).setCell (Nat.le_refl _) _⟩
          exact HN.out.below ((HB.out.setCell (Nat.le_refl _) _).setCell (Nat.le_refl _) _)
theorem trim_any {w : World} {sl : Value} {l : List Nat} (neg : Bool) (hs : DgRd w sl l) (ho : okD l) :
    Calls Tryz.prog 125 #[.bool neg, sl] w fun e w' => (∃ v, e = .returned v ∧ NumIs w' v (sgn neg (nv l))) ∧ Below w.heap.size w w' := by
  obtain ⟨a, c, rfl, _⟩ := hs.slice
  refine (trim_keeps neg hs ho).mono ?_
  rintro e w' ⟨⟨k, b, rfl, h⟩, hb⟩
  exact ⟨⟨_, rfl, h⟩, hb⟩
end Go.Proofs.YtgfakdobajgnfaaGreatDoor
