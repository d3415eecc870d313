/- expr: infix, node. -/
import Derived.Test.YtkjndabbkfbkaaaGreatDoorEx2
namespace Go.Proofs.YtkjndabbkfbkaaaGreatDoor
open Go Go.RowKit

/-- Operators' cells. -/
def opsC : List (List UInt8 × Int) → List Value
  | [] => []
  | o :: l => .string ⟨o.1.toArray⟩ :: .int .u8 o.2 :: opsC l
theorem opsC_get : ∀ (l : List (List UInt8 × Int)) (i : Nat) (h : i < l.length), (opsC l)[i * 2]? = some (.string ⟨l[i].1.toArray⟩) ∧ (opsC l)[i * 2 + 1]? = some (.int .u8 l[i].2)
  | [], i, h => by simp at h
  | o :: l, 0, _ => ⟨rfl, rfl⟩
  | o :: l, i + 1, h => by
    have := opsC_get l i (by simpa using h)
    rw [show (i + 1) * 2 = i * 2 + 1 + 1 by omega]
    exact this
/-- The slice v is of operators. -/
def OpsIs (w : World) (g : Nat) (l : List (List UInt8 × Int)) : Prop := w.heap[g]? = some (.cells (opsC l).toArray 126 (0, 0))
theorem OpsIs.at {w : World} {g : Nat} {l : List (List UInt8 × Int)} (h : OpsIs w g l) {i : Nat} (hi : i < l.length) : w.cell? ⟨g, i * 2, none⟩ = some (.string ⟨l[i].1.toArray⟩) ∧ w.cell? ⟨g, i * 2 + 1, none⟩ = some (.int .u8 l[i].2) := by
  obtain ⟨h1, h2⟩ := opsC_get l i hi
  constructor
  · simp only [World.cell?, OpsIs] at h ⊢
    rw [h]
    simpa using h1
  · simp only [World.cell?, OpsIs] at h ⊢
    rw [h]
    simpa using h2
theorem OpsIs.below {w w' : World} {g : Nat} {l : List (List UInt8 × Int)} (h : OpsIs w g l) (hb : Below w.heap.size w w') : OpsIs w' g l := (hb.block g (lt_of_heap h)).trans h
set_option maxRecDepth 100000 in
theorem infix_any {w : World} {B b d : Nat} {X : List Nat} {vl vt : Value} {ts r : List Tkn} {nds : List Nd} (h : RdAt w B X b vl ts r d vt nds) {g : Nat} {l : List (List UInt8 × Int)} (ho : OpsIs w g l) (hl : l.length ≤ 6) :
    Calls Tryz.prog 134 #[.pointer (some ⟨b, 0, none⟩), .slice (some ⟨g, 0, none⟩) l.length l.length] w fun e w' => e = .returned (.int .u8 (infixH r l)) ∧ Below w.heap.size w w' := by
  have H := hide h
  have Ho := hide ho
  clear h ho
  go_enter Tryz.func134, Tryz.ntmps134
  go_wp2_with fail
  go_loopw [9] (fun vi wr => ∃ j : Nat, j ≤ l.length ∧ vi = .int .i64 j ∧ Hid (infixH r (l.drop j) = infixH r l) ∧ Hid (Below w.heap.size w wr)) (fun vi _ => l.length - (intOf vi).toNat)
  case atStart => exact ⟨0, Nat.zero_le _, rfl, rfl, Below.refl _ _⟩
  case round =>
    obtain ⟨j, hj, rfl, hq, hb⟩ := hrel
    by_cases hjl : j < l.length
    · obtain ⟨d0, d1⟩ := (Ho.out.below hb.out).at hjl
      have e1 := List.drop_eq_getElem_cons hjl
      have e2 : (if isH l[j].1 r then l[j].2 else infixH r (l.drop (j + 1))) = infixH r l := by
        rw [← hq.out, e1]
        rfl
      obtain ⟨⟨s, o⟩, hlj⟩ : ∃ x, l[j] = x := ⟨_, rfl⟩
      rw [hlj] at d0 d1 e2
      simp only at d0 d1 e2
      have i1 : (0 : Int) ≤ (j : Int) := by omega
      have i2 : (j : Int) < (l.length : Int) := by omega
      have hb2 : Below wr.heap.size wr (wr.alloc (.cells #[.string ⟨s.toArray⟩, .int .u8 o] 126)) := (Below.refl _ wr).alloc (Nat.le_refl _) _
      have hz2 := heap_alloc0 wr (.cells #[.string ⟨s.toArray⟩, .int .u8 o] 126)
      obtain ⟨z0, z1, _⟩ := two_cells hz2
      have hi := hide (is_any ((H.out.below hb.out).below hb2) s)
      have HZ := hide (lt_of_heap hz2)
      have HB := hide (hb.out.trans (hb2.mono hb.out.size))
      have E2 := hide e2
      have hj9 : (j : Int) ≤ 6 := by omega
      clear hq hb hb2 hz2 e1 e2 hlj
      go_wp2_with fail
      (with_reducible refine hi.out.mono ?_)
      rintro e V ⟨rfl, hbV⟩
      have z1' := bcell hbV z1
      have HBV := hide (HB.out.trans (hbV.mono HB.out.size))
      have E3 := E2.out
      clear z0 z1 d0 d1 hbV HZ HB E2 hi
      cases hh : isH s r with
      | true =>
        rw [hh] at E3
        simp only [if_true] at E3
        have HE := hide E3
        clear E3
        go_wp2_with fail
        go_ret
        exact ⟨by rw [← HE.out]; rfl, HBV.out⟩
      | false =>
        rw [hh] at E3
        simp only [Bool.false_eq_true, if_false] at E3
        have HE := hide E3
        clear E3
        go_wp2_with fail
        go_roundw
        case rel => exact ⟨j + 1, by omega, by go_num, HE, HBV⟩
        case measure => simp [intOf]; omega
    · obtain rfl : j = l.length := by omega
      have e2 := hq.out
      rw [List.drop_length] at e2
      have HE := hide e2
      have HB := hide hb.out
      clear hq hb e2
      go_wp2_with fail
      go_ret
      exact ⟨by rw [← HE.out]; rfl, HB.out⟩

theorem nodeinfo : (Tryz.prog.info? 34).map (fun i => (i.zero, i.size, i.bytes)) = some (some (.agg #[.int .u8 0, .int .u8 0, .int .i64 0, .string ⟨#[]⟩, .string ⟨#[]⟩, .slice none 0 0, .int .i64 0, .int .i64 0]), 8, 96) := by kernel_rfl
theorem nodeinfo_parts : ∃ i, Tryz.prog.info? 34 = some i ∧ i.zero = some (.agg #[.int .u8 0, .int .u8 0, .int .i64 0, .string ⟨#[]⟩, .string ⟨#[]⟩, .slice none 0 0, .int .i64 0, .int .i64 0]) ∧ i.size = 8 ∧ i.bytes = 96 := by
  have h := nodeinfo
  cases hi : Tryz.prog.info? 34 with
  | none => simp [hi] at h
  | some i =>
    simp [hi] at h
    exact ⟨i, rfl, h.1, h.2.1, h.2.2⟩
/-- A node as it is handed over: without its expressions. -/
def hdV (h : Hd) : Value := .agg #[.int .u8 h.op, .int .u8 h.v.1, .int .i64 h.v.2.1, .string ⟨h.v.2.2.toArray⟩, .string ⟨h.name.toArray⟩, .slice none 0 0, .int .i64 h.line, .int .i64 h.col]
/-- A node is laid behind the others. -/
theorem RdAt.lay {w W Z : World} {B b d : Nat} {X : List Nat} {vl vt v' kv : Value} {ts r : List Tkn} {nds : List Nd} {kvs : List Value} {n : Nd} (h : RdAt w B X b vl ts r d vt nds) (hk1 : w.ownsRow B 34 8 vt nds.length (nflat kvs nds)) (hk2 : KidsAre w B X kvs nds)
    (hkv : w.ownsRow B 3 1 kv n.kids.length (nums n.kids)) (hkx : ∀ g, kv.ownBlock = some g → g ∉ X) (hbw : Below w.heap.size w W) (hg : W.grownBy Z vt.ownBlock) (hown : Z.ownsRow B 34 8 v' (nds.length + 1) (nflat kvs nds ++ nflat [kv] [n])) (hv : ∀ g, v'.ownBlock = some g → vt.ownBlock = some g ∨ w.heap.size ≤ g)
    (hroom : nds.length + 1 + r.length ≤ 1000000) : RdAt (Z.setCell ⟨b, 3, none⟩ v') B X b vl ts r d v' (nds ++ [n]) ∧ Rch b w vt (Z.setCell ⟨b, 3, none⟩ v') v' := by
  have hX : Only vt.ownBlock.toList w Z := (Only.of_below hbw _).trans (Only.of_grown hg _ fun k hk => by simp [hk])
  have hbt : vt.ownBlock ≠ some b := h.tree.not h.blk (by decide)
  have hbX : Z.heap[b]? = some (.cells #[vl, .int .i64 ((ts.length - r.length : Nat) : Int), .int .i64 (d : Int), vt] 83 (0, 0)) := (hX.block b (lt_of_heap h.blk) (by simpa using hbt)).trans h.blk
  have hb2 : (Z.setCell ⟨b, 3, none⟩ v').heap[b]? = some (.cells #[vl, .int .i64 ((ts.length - r.length : Nat) : Int), .int .i64 (d : Int), v'] 83 (0, 0)) := by
    rw [setCell_heap hbX]
    rfl
  have hO : Only (b :: vt.ownBlock.toList) w (Z.setCell ⟨b, 3, none⟩ v') := (hX.mono fun i hi => List.mem_cons_of_mem _ hi).setCell (.inl (by simp)) _
  have hint : ∀ v k xs, w.ownsRow B 3 1 v k xs → Z.ownsRow B 3 1 v k xs := fun v k xs q => owns_only q hX fun g e hm => by
    have hm' : vt.ownBlock = some g := by simpa using hm
    rcases q.2 with ⟨rfl, _⟩ | ⟨g', cap, cur, rfl, _, hg', _⟩
    · cases e
    · simp only [Value.ownBlock, Option.some.injEq] at e
      subst e
      exact owns_not hk1 hg' (by decide) hm'
  have hset : ∀ {t : TypeId} {sz : Nat} v k xs, t ≠ 83 → Z.ownsRow B t sz v k xs → (Z.setCell ⟨b, 3, none⟩ v').ownsRow B t sz v k xs := fun v k xs ht q => owns_only q (only_setCell Z b 3 v') fun g e hm => by
    simp at hm
    subst hm
    exact owns_not q hbX ht e
  refine ⟨⟨h.suf, h.toks.kept hO.size fun g hg hlt => hO.block g hlt fun hm => ?_, h.nam, h.tl, h.hB, fun x hx => Nat.lt_of_lt_of_le (h.xl x hx) hO.size, h.hd, h.big, by simpa using hroom, hb2, kvs ++ [kv], ?_, ?_⟩, hO, fun g hg => hv g hg⟩
  · have h1 := h.tl g hg
    rcases List.mem_cons.1 hm with rfl | hm
    · have := h.hB
      omega
    · have := h.tree.own g (by simpa using hm)
      omega
  · rw [nflat_snoc hk2.len]
    have := hset _ _ _ (by decide) hown
    simpa using this
  · exact KidsAre.snoc (hk2.imp fun v k xs hn q => ⟨hset v k xs (by decide) (hint v k xs q), hn⟩) ⟨hset _ _ _ (by decide) (hint _ _ _ hkv), hkx⟩
set_option maxRecDepth 100000 in
set_option maxHeartbeats 4000000 in
theorem node_any {w : World} {B b d : Nat} {X : List Nat} {vl vt : Value} {ts r : List Tkn} {nds : List Nd} (h : RdAt w B X b vl ts r d vt nds) (hroom : nds.length + 1 + r.length ≤ 1000000) (hB : B ≤ w.heap.size) (hd : Hd) (kids : List Nat) (ka : Option Addr) (kc : Nat) (hk : w.ownsRow B 3 1 (.slice ka kids.length kc) kids.length (nums kids)) (hkx : ∀ g, (Value.slice ka kids.length kc).ownBlock = some g → g ∉ X) :
    Calls Tryz.prog 110 #[.pointer (some ⟨b, 0, none⟩), hdV hd, .slice ka kids.length kc] w fun e w' => e = .returned (.int .i64 (nds.length : Int)) ∧ ∃ vt', RdAt w' B X b vl ts r d vt' (nds ++ [⟨hd, kids⟩]) ∧ Rch b w vt w' vt' := by
  obtain ⟨kvs, hk1, hk2⟩ := h.tree
  obtain ⟨la, lc, rfl⟩ := row_form hk1
  obtain ⟨c0, c1, c2, c3, cf⟩ := cells4 h.blk
  have cf3 := cf 3
  obtain ⟨i0, hi, hz0, hz1, hz2⟩ := nodeinfo_parts
  have hb := lt_of_heap h.blk
  obtain ⟨op, ⟨vk, vn, vs⟩, nm, ln, cl⟩ := hd
  have Ow : Hid (((w.alloc (.cells #[.int .u8 op, .int .u8 vk, .int .i64 vn, .string ⟨vs.toArray⟩, .string ⟨nm.toArray⟩, .slice ka kids.length kc, .int .i64 ln, .int .i64 cl] 34)).alloc (.cells #[.int .u8 op, .int .u8 vk, .int .i64 vn, .string ⟨vs.toArray⟩, .string ⟨nm.toArray⟩, .slice ka kids.length kc, .int .i64 ln, .int .i64 cl] 34)).drew.ownsRow B 34 8 (.slice la nds.length lc) nds.length (nflat kvs nds)) := hide (owns_below hk1 (Only.drew (((Only.refl [] w).alloc _).alloc _)).below)
  have OW : Hid (Below w.heap.size w ((w.alloc (.cells #[.int .u8 op, .int .u8 vk, .int .i64 vn, .string ⟨vs.toArray⟩, .string ⟨nm.toArray⟩, .slice ka kids.length kc, .int .i64 ln, .int .i64 cl] 34)).alloc (.cells #[.int .u8 op, .int .u8 vk, .int .i64 vn, .string ⟨vs.toArray⟩, .string ⟨nm.toArray⟩, .slice ka kids.length kc, .int .i64 ln, .int .i64 cl] 34)).drew) := hide (Only.drew (((Only.refl [] w).alloc _).alloc _)).below
  have HS : Hid (((w.alloc (.cells #[.int .u8 op, .int .u8 vk, .int .i64 vn, .string ⟨vs.toArray⟩, .string ⟨nm.toArray⟩, .slice ka kids.length kc, .int .i64 ln, .int .i64 cl] 34)).alloc (.cells #[.int .u8 op, .int .u8 vk, .int .i64 vn, .string ⟨vs.toArray⟩, .string ⟨nm.toArray⟩, .slice ka kids.length kc, .int .i64 ln, .int .i64 cl] 34)).drew.heap.size = w.heap.size + 2) := hide (by show ((w.alloc _).alloc _).heap.size = _; simp)
  have hbt : Hid (Value.ownBlock (.slice la nds.length lc) ≠ some b) := hide (h.tree.not h.blk (by decide))
  have HN : Hid (((w.alloc (.cells #[.int .u8 op, .int .u8 vk, .int .i64 vn, .string ⟨vs.toArray⟩, .string ⟨nm.toArray⟩, .slice ka kids.length kc, .int .i64 ln, .int .i64 cl] 34)).alloc (.cells #[.int .u8 op, .int .u8 vk, .int .i64 vn, .string ⟨vs.toArray⟩, .string ⟨nm.toArray⟩, .slice ka kids.length kc, .int .i64 ln, .int .i64 cl] 34)).drew.heap[w.heap.size + 1]? = some (.cells #[.int .u8 op, .int .u8 vk, .int .i64 vn, .string ⟨vs.toArray⟩, .string ⟨nm.toArray⟩, .slice ka kids.length kc, .int .i64 ln, .int .i64 cl] 34)) := hide (by
    have := heap_alloc0 (w.alloc (.cells #[.int .u8 op, .int .u8 vk, .int .i64 vn, .string ⟨vs.toArray⟩, .string ⟨nm.toArray⟩, .slice ka kids.length kc, .int .i64 ln, .int .i64 cl] 34)) (.cells #[.int .u8 op, .int .u8 vk, .int .i64 vn, .string ⟨vs.toArray⟩, .string ⟨nm.toArray⟩, .slice ka kids.length kc, .int .i64 ln, .int .i64 cl] 34)
    rw [show (w.alloc (.cells #[.int .u8 op, .int .u8 vk, .int .i64 vn, .string ⟨vs.toArray⟩, .string ⟨nm.toArray⟩, .slice ka kids.length kc, .int .i64 ln, .int .i64 cl] 34)).heap.size = w.heap.size + 1 by simp] at this
    exact this)
  have p3 := bcell OW.out c3
  have pf : ((w.alloc (.cells #[.int .u8 op, .int .u8 vk, .int .i64 vn, .string ⟨vs.toArray⟩, .string ⟨nm.toArray⟩, .slice ka kids.length kc, .int .i64 ln, .int .i64 cl] 34)).alloc (.cells #[.int .u8 op, .int .u8 vk, .int .i64 vn, .string ⟨vs.toArray⟩, .string ⟨nm.toArray⟩, .slice ka kids.length kc, .int .i64 ln, .int .i64 cl] 34)).drew.frozen? ⟨b, 3, none⟩ = false := (OW.out.frozen (p := ⟨b, 3, none⟩) hb).trans cf3
  have HK1 := hide hk1
  have HK2 := hide hk2
  have HK := hide hk
  have Hkx := hide hkx
  have H := hide h
  have Hi := hide hi
  have Hz0 := hide hz0
  have Hz1 := hide hz1
  have Hz2 := hide hz2
  clear h hk1 hk2 hk hkx hi hz0 hz1 hz2 cf
  unfold hdV
  go_enter Tryz.func110, Tryz.ntmps110
  go_wp2_with fail
  go_region_law
    ((refine step_append_lies _ (by rfl) _ _ _ (by rfl) B 34 i0 (.agg #[.int .u8 0, .int .u8 0, .int .i64 0, .string ⟨#[]⟩, .string ⟨#[]⟩, .slice none 0 0, .int .i64 0, .int .i64 0]) 8 96 Tryz.underlying24 Hi.out Hz0.out Hz1.out Hz2.out rfl (by decide) (.slice la nds.length lc) nds.length (nflat kvs nds) (by rfl) Ow.out ⟨w.heap.size + 1, 0, none⟩ 1 1 [.int .u8 op, .int .u8 vk, .int .i64 vn, .string ⟨vs.toArray⟩, .string ⟨nm.toArray⟩, .slice ka kids.length kc, .int .i64 ln, .int .i64 cl] (by rfl) (by rfl) (World.news_of_block (cs := #[.int .u8 op, .int .u8 vk, .int .i64 vn, .string ⟨vs.toArray⟩, .string ⟨nm.toArray⟩, .slice ka kids.length kc, .int .i64 ln, .int .i64 cl]) (t := 34) (fr := (0, 0)) HN.out) (by simp [Value.oneCell']) (by decide) (by unfold maxLen; omega) (by omega) (by rw [HS.out]; omega) (w.heap.size + 2) HS.out ?_; intro g cap w3 hown3 hgrow hat hlt; have r0 := (hgrow.cell_far ⟨b, 3, none⟩ (by show b < _; rw [HS.out]; omega) (Ne.symm hbt.out)).trans p3; have rf := (hgrow.frozen_far ⟨b, 3, none⟩ (by show b < _; rw [HS.out]; omega) (Ne.symm hbt.out)).trans pf))
  all_goals
    have hG := H.out.lay (n := ⟨⟨op, (vk, vn, vs), nm, ln, cl⟩, kids⟩) HK1.out HK2.out HK.out Hkx.out OW.out hgrow hown3 (fun x hx => by
      simp only [Value.ownBlock, Option.some.injEq] at hx
      subst hx
      rcases hat with q | q
      · exact .inl q
      · exact .inr (by omega)) hroom
    clear hown3 hgrow hat hlt r0 rf p3 pf c0 c1 c2 c3 Ow OW HS hbt HN HK1 HK2 HK
    obtain ⟨W1, hW1⟩ : ∃ W1, w3.setCell ⟨b, 3, none⟩ (.slice (some ⟨g, 0, none⟩) (nds.length + 1) cap) = W1 := ⟨_, rfl⟩
    rw [hW1] at hG ⊢
    clear hW1
    obtain ⟨_, _, _, c3, _⟩ := cells4 hG.1.blk
    have HG := hide hG
    clear hG
    go_wp2_with fail
    go_ret
    refine ⟨?_, _, HG.out.1, HG.out.2⟩
    first | rfl | (simp; done)
end Go.Proofs.YtkjndabbkfbkaaaGreatDoor
