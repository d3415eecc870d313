/- witanref29's Book: Facts, Copy. -/
import Derived.Test.YtmcajoccfbebiaaRT2
namespace Go.Proofs.Ytmcajoccfbebiaa
open Go Go.RowKit Go.MapKept Go.Sort

set_option maxHeartbeats 4000000 in
theorem rfacts_any (B r : Nat) (v : Value) (L : List Sp) (w : World) (h : RefB B w r v L) :
    Calls Try.prog 38 #[.pointer (some ⟨r, 0, none⟩)] w fun e w' => ∃ v, e = .returned v ∧ w'.ownsRow w.heap.size 3 1 v L.length ((L.map Sp.id).map (.int .i64)) ∧ Below w.heap.size w w' := by
  obtain ⟨va, vc, rfl⟩ := h.form
  have hlen := h.len
  have H := hide h
  clear h
  obtain ⟨i0, hi, hz0, hz1, hz2⟩ := int_parts
  have Hi := hide hi
  have Hz0 := hide hz0
  have Hz1 := hide hz1
  have Hz2 := hide hz2
  clear hi hz0 hz1 hz2
  go_enter Try.func38, Try.ntmps38
  go_wp2
  go_loopw [3, 4] (fun vo vi wr => ∃ (k : Nat) (oa : Option Addr) (oc : Nat), k ≤ L.length ∧ vi = .int .i64 k ∧ vo = .slice oa k oc ∧ Hid (wr.ownsRow w.heap.size 3 1 (.slice oa k oc) k (((L.take k).map Sp.id).map (.int .i64)) ∧ Below w.heap.size w wr)) (fun _ vi _ => L.length - (intOf vi).toNat)
  case atStart => exact ⟨0, none, 0, Nat.zero_le _, rfl, rfl, by simpa using World.ownsRow_nil _ _ _ _, Below.refl _ _⟩
  case round =>
    obtain ⟨k, oa, oc, hk, rfl, rfl, hq⟩ := hrel
    have Hw := hide (H.out.below hq.out.2)
    have c0 := (cells1b Hw.out.blk).1
    have hsz : w.heap.size ≤ wr.heap.size := hq.out.2.size
    by_cases hlk : k < L.length
    · obtain ⟨g, cap, e, d0, _, _⟩ := Hw.out.at hlk
      injection e with e1 e2 e3
      subst e1 e3
      clear e2
      have htk : ((L.take (k + 1)).map Sp.id).map (Value.int .i64) = ((L.take k).map Sp.id).map (Value.int .i64) ++ [.int .i64 L[k].id] := by
        rw [List.take_succ_eq_append_getElem hlk, List.map_append, List.map_append]
        rfl
      obtain ⟨z, hz⟩ : ∃ z, L[k].id = z := ⟨_, rfl⟩
      rw [hz] at d0 htk
      have Htk := hide htk
      clear htk hz
      go_wp2_with (at_builtin; refine wpList_append_own _ rfl (.tmp 14) (.tmp 23) _ rfl w.heap.size 3 i0 (.int .i64 0) 1 8 Try.underlying36 Hi.out Hz0.out Hz1.out Hz2.out rfl (by decide) (.slice oa k oc) k _ rfl (hq.out.1.alloc _) ⟨wr.heap.size, 0, none⟩ 1 1 [.int .i64 z] rfl rfl (World.news_of_block (cs := #[.int .i64 z]) (heap_alloc_new wr _)) (by simp [Value.oneCell']) (by unfold maxLen; omega) (by omega) (by simp; omega) ?_; intro v3 X ho3 hg3 _; rw [← Htk.out] at ho3; obtain ⟨na, nc, rfl⟩ := row_form ho3; have HF := hide (And.intro ho3 ((hq.out.2.alloc hsz _).grown hg3 (by simp; omega) (fun k e => row_own hq.out.1 k e))); clear ho3 hg3)
      go_roundw
      case rel => exact ⟨k + 1, na, nc, by omega, by go_num, rfl, HF.out⟩
      case measure => simp [intOf]; omega
    · obtain rfl : k = L.length := by omega
      have hrow := hq.out.1
      rw [List.take_length] at hrow
      have HF := hide (And.intro hrow hq.out.2)
      clear hq hrow
      go_wp2
      go_ret
      exact ⟨_, rfl, HF.out.1, HF.out.2⟩

theorem RefB.src {B r : Nat} {w : World} {v : Value} {L : List Sp} (h : RefB B w r v L) : (v = .slice none 0 0 ∧ L.length = 0 ∧ rflat L = []) ∨ ∃ ad c, v = .slice (some ad) L.length c ∧ (rflat L).length = L.length * 3 ∧ ∀ j u, (rflat L)[j]? = some u → w.cell? (ad.add j) = some u := by
  rcases h.row.2 with ⟨rfl, h0⟩ | ⟨g, cap, cur, rfl, _⟩
  · have : L = [] := List.eq_nil_of_length_eq_zero (by omega)
    subst this
    exact .inl ⟨rfl, rfl, rfl⟩
  · exact .inr ⟨_, _, rfl, rflat_length L, h.row.cells (g := g) rfl⟩
set_option maxHeartbeats 4000000 in
theorem rcopy_any (B r : Nat) (v : Value) (L : List Sp) (w : World) (h : RefB B w r v L) :
    Calls Try.prog 74 #[.pointer (some ⟨r, 0, none⟩)] w fun e w' => ∃ r' v', e = .returned (.pointer (some ⟨r', 0, none⟩)) ∧ RefB B w' r' v' L ∧ AvV (w.heap.size ≤ ·) v' ∧ Below w.heap.size w w' := by
  obtain ⟨va, vc, rfl⟩ := h.form
  have hlen := h.len
  have hB : B ≤ w.heap.size := by have := h.hB; have := lt_of_heap h.blk; omega
  have H := hide h
  have h1a := rflat_one L h.js
  have H1a := hide h1a
  obtain ⟨i0, hi, hz0, hz1, hz2⟩ := rinfo_parts
  have Hi := hide hi
  have Hz0 := hide hz0
  have Hz1 := hide hz1
  have Hz2 := hide hz2
  have hown0 : (w.alloc (Obj.cells #[] 111)).ownsRow w.heap.size 111 3 (.slice (some ⟨w.heap.size, 0, none⟩) 0 0) 0 [] := ⟨rfl, .inr ⟨w.heap.size, 0, #[], rfl, Nat.le_refl _, (MapKept.heap_alloc w _).1, Nat.le_refl _, Nat.zero_le _, rfl, rfl⟩⟩
  have hb1 : Below w.heap.size w (w.alloc (Obj.cells #[] 111)) := ((Only.refl [] w).alloc _).below
  have H1 := hide (h.below hb1)
  have c1 := (cells1b H1.out.blk).1
  have Hown0 := hide hown0
  have Hb1 := hide hb1
  have hsz1 : w.heap.size ≤ (w.alloc (Obj.cells #[] 111)).heap.size := by simp
  clear h h1a hi hz0 hz1 hz2 hown0 hb1
  go_enter Try.func74, Try.ntmps74
  go_wp2_with (at_builtin; refine wpList_append_any _ rfl (.tmp 3) (.tmp 7) _ rfl w.heap.size 111 i0 (.agg #[.int .i64 0, .bool false, .slice none 0 0]) 3 40 Try.underlying68 Hi.out Hz0.out Hz1.out Hz2.out rfl (by decide) (.slice (some ⟨w.heap.size, 0, none⟩) 0 0) 0 [] rfl Hown0.out (.slice va L.length vc) L.length (rflat L) rfl H1.out.src H1a.out (by unfold maxLen; omega) (by omega) hsz1 ?_; intro v2 X ho1 hg1; simp only [Nat.zero_add, List.nil_append] at ho1; obtain ⟨xa, xc, rfl⟩ := row_form ho1; have Ho1 := hide ho1; have Hx1 := hide (Hb1.out.grown hg1 hsz1 (fun k e => by simp only [Value.ownBlock, Option.some.injEq] at e; omega)); clear ho1 hg1)
  have hbX : Below X.heap.size X (X.alloc (Obj.cells #[.slice xa L.length xc] 70)) := ((Only.refl [] X).alloc _).below
  have hzX : w.heap.size ≤ X.heap.size := Hx1.out.size
  have hbw : Below w.heap.size w (X.alloc (Obj.cells #[.slice xa L.length xc] 70)) := Hx1.out.trans (hbX.mono hzX)
  have HF : Hid (RefB B (X.alloc (Obj.cells #[.slice xa L.length xc] 70)) X.heap.size (.slice xa L.length xc) L) := hide ⟨(MapKept.heap_alloc X _).1, by omega, owns_base (owns_below Ho1.out hbX) hB, fun p hp => ⟨(H.out.js p hp).1, (H.out.js p hp).2.below hbw⟩, H.out.len, H.out.asc⟩
  have HB := hide hbw
  clear hbX hbw
  go_ret
  exact ⟨_, _, rfl, HF.out, AvV.own Ho1.out (fun _ hk => hk), HB.out⟩
end Go.Proofs.Ytmcajoccfbebiaa
