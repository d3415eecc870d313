/- expr: call. -/
import Derived.Test.YtkjndabbkfbkaaaGreatDoorEx5
namespace Go.Proofs.YtkjndabbkfbkaaaGreatDoor
open Go Go.RowKit

theorem intinfo : (Tryz.prog.info? 3).map (fun i => (i.zero, i.size, i.bytes)) = some (some (.int .i64 0), 1, 8) := by kernel_rfl
theorem intinfo_parts : ∃ i, Tryz.prog.info? 3 = some i ∧ i.zero = some (.int .i64 0) ∧ i.size = 1 ∧ i.bytes = 8 := by
  have h := intinfo
  cases hi : Tryz.prog.info? 3 with
  | none => simp [hi] at h
  | some i =>
    simp [hi] at h
    exact ⟨i, rfl, h.1, h.2.1, h.2.2⟩
/-- A reserved row of numbers grows. -/
theorem RdAt.grow {w w1 w2 : World} {B b d m : Nat} {X : List Nat} {vl vt vk v' : Value} {ts r : List Tkn} {nds : List Nd} {xs : List Value} (h : RdAt w B (vk.ownBlock.toList ++ X) b vl ts r d vt nds) (hk : w.ownsRow B 3 1 vk m xs) (hb : Below w.heap.size w w1) (hg : w1.grownBy w2 vk.ownBlock)
    (hv : ∀ g, v'.ownBlock = some g → vk.ownBlock = some g ∨ w.heap.size ≤ g ∧ g < w2.heap.size) : RdAt w2 B (v'.ownBlock.toList ++ X) b vl ts r d vt nds := by
  have hO : Only vk.ownBlock.toList w w2 := (Only.of_below hb _).trans (Only.of_grown hg _ fun k hk => by simp [hk])
  have hnb : vk.ownBlock ≠ some b := owns_not hk h.blk (by decide)
  refine ⟨h.suf, h.toks.kept hO.size fun g hg' hlt => hO.block g hlt fun hm => ?_, h.nam, h.tl, h.hB, fun x hx => ?_, h.hd, h.big, h.few, hO.cells_of h.blk (by simpa using hnb), h.tree.imp (fun xs q => owns_only q hO fun g e hm => ?_) fun v n xs hn q => ⟨owns_only q hO fun g e hm => hn g e (List.mem_append.2 (.inl hm)), fun g e hm => ?_⟩⟩
  · have h1 := h.tl g hg'
    have h2 := row_own hk g (by simpa using hm)
    omega
  · rcases List.mem_append.1 hx with hx | hx
    · rcases hv x (by simpa using hx) with e | e
      · have := h.xl x (List.mem_append.2 (.inl (by simpa using e)))
        have := hO.size
        omega
      · exact e.2
    · have := h.xl x (List.mem_append.2 (.inr hx))
      have := hO.size
      omega
  · have hm' : vk.ownBlock = some g := by simpa using hm
    rcases q.2 with ⟨rfl, _⟩ | ⟨g', cap, cur, rfl, _, hg', _⟩
    · cases e
    · simp only [Value.ownBlock, Option.some.injEq] at e
      subst e
      exact owns_not hk hg' (by decide) hm'
  · rcases List.mem_append.1 hm with hm | hm
    · rcases hv g (by simpa using hm) with e2 | e2
      · exact hn g e (List.mem_append.2 (.inl (by simpa using e2)))
      · have : g < w.heap.size := by
          rcases q.2 with ⟨rfl, _⟩ | ⟨g', cap, cur, rfl, _, hg', _⟩
          · cases e
          · simp only [Value.ownBlock, Option.some.injEq] at e
            subst e
            exact lt_of_heap hg'
        omega
    · exact hn g e (List.mem_append.2 (.inr hm))
/-- Fewer are reserved. -/
theorem RdAt.free {w : World} {B b d : Nat} {X Y : List Nat} {vl vt : Value} {ts r : List Tkn} {nds : List Nd} (h : RdAt w B Y b vl ts r d vt nds) (hXY : ∀ x ∈ X, x ∈ Y) : RdAt w B X b vl ts r d vt nds :=
  ⟨h.suf, h.toks, h.nam, h.tl, h.hB, fun x hx => h.xl x (hXY x hx), h.hd, h.big, h.few, h.blk, h.tree.imp (fun _ q => q) fun _ _ _ hn q => ⟨q, fun g e hm => hn g e (hXY g hm)⟩⟩
/-- A call's loop. -/
structure CallAt (w : World) (B : Nat) (X : List Nat) (b : Nat) (vl : Value) (ts : List Tkn) (d : Nat) (vt : Value) (nds : List Nd) (c : Cl) (pc pp : Nat) (wr : World) (ks : List Ex) (rj : List Tkn) (vj vk : Value) : Prop where
  rd : RdAt wr B (vk.ownBlock.toList ++ X) b vl ts rj (d + 1) vj (nds ++ flats ks nds.length)
  row : wr.ownsRow B 3 1 vk ks.length (nums (ends ks nds.length))
  new : ∀ g, vk.ownBlock = some g → w.heap.size ≤ g
  rch : Rch b w vt wr vj
  hc : wr.heap[pc]? = some (.cells #[.int .u8 c.op, .int .i64 (c.least : Int), .int .i64 (c.most : Int)] 131 (0, 0))
  hp : wr.heap[pp]? = some (.cells #[.int .i64 c.line, .int .i64 c.col] 26 (0, 0))
theorem CallAt.below {w wr V : World} {B b d pc pp : Nat} {X : List Nat} {vl vt vj vk : Value} {ts rj : List Tkn} {nds : List Nd} {c : Cl} {ks : List Ex} (h : CallAt w B X b vl ts d vt nds c pc pp wr ks rj vj vk) (hb : Below wr.heap.size wr V) : CallAt w B X b vl ts d vt nds c pc pp V ks rj vj vk :=
  ⟨h.rd.below hb, owns_below h.row hb, h.new, h.rch.trans (Rch.of_below vj hb), (hb.block _ (lt_of_heap h.hc)).trans h.hc, (hb.block _ (lt_of_heap h.hp)).trans h.hp⟩
theorem CallAt.turn {w wr V : World} {B b d pc pp : Nat} {X : List Nat} {vl vt vj vk : Value} {ts rj r' : List Tkn} {nds : List Nd} {c : Cl} {ks : List Ex} (h : CallAt w B X b vl ts d vt nds c pc pp wr ks rj vj vk) (ho : Only [b] wr V)
    (hr : RdAt V B (vk.ownBlock.toList ++ X) b vl ts r' (d + 1) vj (nds ++ flats ks nds.length)) : CallAt w B X b vl ts d vt nds c pc pp V ks r' vj vk := by
  have hne : ∀ {p : Nat} {cs : Array Value} {T : TypeId}, wr.heap[p]? = some (.cells cs T (0, 0)) → 83 ≠ T → p ∉ [b] := fun hp hT hm => by
    simp at hm
    subst hm
    rw [h.rd.blk] at hp
    injection hp with hp
    injection hp with _ hp
    exact hT hp
  exact ⟨hr, owns_only h.row ho fun g e hm => owns_not h.row h.rd.blk (by decide) (by simp at hm; rw [← hm]; exact e), h.new, h.rch.trans (Rch.of_only vj ho), ho.cells_of h.hc (hne h.hc (by decide)), ho.cells_of h.hp (hne h.hp (by decide))⟩
/-- One expression more. -/
theorem CallAt.more {w wr V4 V5 w6 : World} {B b d pc pp g n cap : Nat} {X : List Nat} {vl vt vj vk v4 : Value} {ts rj q4 : List Tkn} {nds : List Nd} {c : Cl} {ks : List Ex} {a : Ex} {z : Nat} (h : CallAt w B X b vl ts d vt nds c pc pp wr ks rj vj vk)
    (hr : RdAt V4 B (vk.ownBlock.toList ++ X) b vl ts q4 (d + 1) v4 (nds ++ flats ks nds.length ++ a.flat (nds ++ flats ks nds.length).length)) (hch : Rch b wr vj V4 v4) (hz : z = nds.length + sizes ks + a.size - 1) (hb : Below V4.heap.size V4 V5) (hg : V5.grownBy w6 vk.ownBlock)
    (hown : w6.ownsRow B 3 1 (.slice (some ⟨g, 0, none⟩) n cap) n (nums (ends ks nds.length) ++ [.int .i64 (z : Int)])) (hn : n = ks.length + 1) (hat : vk.ownBlock = some g ∨ V4.heap.size ≤ g) (hlt : g < w6.heap.size) :
    CallAt w B X b vl ts d vt nds c pc pp w6 (ks ++ [a]) q4 v4 (.slice (some ⟨g, 0, none⟩) n cap) := by
  have hrow4 : V4.ownsRow B 3 1 vk ks.length (nums (ends ks nds.length)) := owns_only h.row hch.only fun g e hm => by
    rcases h.row.2 with ⟨e2, _⟩ | ⟨g', cap, cur, e2, _, hg', _⟩
    · rw [e2] at e
      cases e
    · rw [e2] at e
      simp only [Value.ownBlock, Option.some.injEq] at e
      subst e
      exact h.rd.apart hg' (by decide) (by decide) hm
  have hc4 := hch.only.cells_of h.hc (h.rd.apart h.hc (by decide) (by decide))
  have hp4 := hch.only.cells_of h.hp (h.rd.apart h.hp (by decide) (by decide))
  have hO : Only vk.ownBlock.toList V4 w6 := (Only.of_below hb _).trans (Only.of_grown hg _ fun k hk => by simp [hk])
  have hfl : nds ++ flats ks nds.length ++ a.flat (nds ++ flats ks nds.length).length = nds ++ flats (ks ++ [a]) nds.length := by
    rw [flats_app, List.append_assoc, List.length_append, flats_len]
    simp [flats]
  have hen : nums (ends ks nds.length) ++ [.int .i64 (z : Int)] = nums (ends (ks ++ [a]) nds.length) := by
    rw [ends_app, hz]
    simp [nums, ends]
  subst hn
  rw [hen] at hown
  refine ⟨?_, by simpa using hown, fun g' e => ?_, ⟨(h.rch.trans hch).only.step hO fun i hi => .inr (h.new i (by simpa using hi)), (h.rch.trans hch).own⟩, hO.cells_of hc4 fun hm => owns_not hrow4 hc4 (by decide) (by simpa using hm), hO.cells_of hp4 fun hm => owns_not hrow4 hp4 (by decide) (by simpa using hm)⟩
  · rw [← hfl]
    refine hr.grow hrow4 hb hg fun g' e => ?_
    simp only [Value.ownBlock, Option.some.injEq] at e
    subst e
    rcases hat with e2 | e2
    · exact .inl e2
    · exact .inr ⟨e2, hlt⟩
  · simp only [Value.ownBlock, Option.some.injEq] at e
    subst e
    rcases hat with e2 | e2
    · exact h.new g e2
    · exact Nat.le_trans (h.rch.trans hch).only.size e2
theorem isH_excl {s s' : List UInt8} {r : List Tkn} (h : isH s r = true) (hs : s ≠ s') : isH s' r = false := by
  cases r with
  | nil => cases h
  | cons t q =>
    simp only [isH, Bool.and_eq_true, decide_eq_true_eq] at h
    have : t.w.t ≠ s' := fun e => hs (h.1.symm.trans e)
    simp [isH, this]
theorem flat_many (h : Hd) (ks : List Ex) (k : Nat) : (Ex.mk h ks).flat k = flats ks k ++ [⟨h, ends ks k⟩] := by rw [Ex.flat]
set_option maxRecDepth 100000 in
set_option maxHeartbeats 8000000 in
theorem call_any {k B b : Nat} {X : List Nat} {vl : Value} {ts : List Tkn} (ih : LvlIH k B b vl ts) {d : Nat} {t : Tkn} {q : List Tkn} {w : World} {vt : Value} {nds : List Nd} (hk : rank (.lvl 7) (t :: q) ≤ k) (h : RdAt w B X b vl ts (t :: q) d vt nds) (hB : B ≤ w.heap.size)
    (c : Cl) (hm0 : 1 ≤ c.most) (hm8 : c.most ≤ 8) :
    Calls Tryz.prog 106 #[.pointer (some ⟨b, 0, none⟩), .agg #[.int .u8 c.op, .int .i64 (c.least : Int), .int .i64 (c.most : Int)], .agg #[.int .i64 c.line, .int .i64 c.col]] w (XPost w B X b vl ts d vt nds (openE d q fun q' => argsE c [] (d + 1) q')) := by
  obtain ⟨Wa, hWa⟩ : ∃ Wa, w.alloc (.cells #[.int .u8 c.op, .int .i64 (c.least : Int), .int .i64 (c.most : Int)] 131) = Wa := ⟨_, rfl⟩
  have hza : Wa.heap.size = w.heap.size + 1 := by rw [← hWa]; simp
  obtain ⟨Wb, hWb⟩ : ∃ Wb, Wa.alloc (.cells #[.int .i64 c.line, .int .i64 c.col] 26) = Wb := ⟨_, rfl⟩
  have hca := heap_alloc0 w (.cells #[.int .u8 c.op, .int .i64 (c.least : Int), .int .i64 (c.most : Int)] 131)
  have hpa := heap_alloc0 Wa (.cells #[.int .i64 c.line, .int .i64 c.col] 26)
  have hbb : Below w.heap.size w Wb := by rw [← hWb, ← hWa]; exact ((Below.refl _ w).alloc (Nat.le_refl _) _).alloc (by simp) _
  have hba : Below Wa.heap.size Wa Wb := by rw [← hWb]; exact (Below.refl _ _).alloc (Nat.le_refl _) _
  rw [hWa] at hca
  rw [hWb, hza] at hpa
  have hcb := (hba.block _ (lt_of_heap hca)).trans hca
  have hrb := h.below hbb
  obtain ⟨c0, c1, c2, c3, cf⟩ := cells4 hrb.blk
  have cf1 := cf 1
  have hbig := hrb.big
  have hr1 := hrb.step
  have ho1 := only_setCell Wb b 1 (.int .i64 (((ts.length - (q.length + 1) : Nat) : Int) + 1))
  have hne : ∀ {p : Nat} {cs : Array Value} {T : TypeId}, Wb.heap[p]? = some (.cells cs T (0, 0)) → 83 ≠ T → p ∉ [b] := fun hp hT hm => by
    simp at hm
    subst hm
    rw [hrb.blk] at hp
    injection hp with hp
    injection hp with _ hp
    exact hT hp
  have hc1 := ho1.cells_of hcb (hne hcb (by decide))
  have hp1 := ho1.cells_of hpa (hne hpa (by decide))
  obtain ⟨W1, hW1⟩ : ∃ W1, Wb.setCell ⟨b, 1, none⟩ (.int .i64 (((ts.length - (q.length + 1) : Nat) : Int) + 1)) = W1 := ⟨_, rfl⟩
  rw [hW1] at hr1 ho1 hc1 hp1
  have hch1 : Rch b w vt W1 vt := (Rch.of_below vt hbb).trans (Rch.of_only vt ho1)
  have hi1 := hide (is_any hr1 [40])
  have HR1 := hide hr1
  have HC1 := hide hc1
  have HP1 := hide hp1
  have HCH := hide hch1
  have HI := hide ih
  have H := hide h
  clear h ih hr1 ho1 hc1 hp1 hch1 hne hrb hca hpa hbb hba hcb cf
  by_cases ho : isH [40] q = true
  · obtain ⟨t', q', rfl⟩ := isH_ne ho
    rw [ho] at hi1
    simp only [List.length_cons] at hW1
    by_cases hd : d = 12
    · have HO := hide ho
      have HD := hide hd
      clear ho hd
      go_enter Tryz.func106, Tryz.ntmps106
      go_wp2_with fail
      (with_reducible refine hi1.out.mono ?_)
      rintro e V1 ⟨rfl, hb1⟩
      have hr := HR1.out.below hb1
      have hop := hide (open_deep (HD.out ▸ hr))
      have HE : Hid (XPost w B X b vl ts d vt nds (openE d (t' :: q') fun q' => argsE c [] (d + 1) q') (gaveUp 12) V1) := hide (by
        unfold openE
        rw [if_pos HO.out, if_pos HD.out]
        exact ⟨rfl, hr.err, HCH.out.err (Only.of_below hb1 _)⟩)
      clear hr hb1 hi1 HR1 hWa hWb hW1
      go_wp2_with fail
      (with_reducible refine hop.out.mono ?_)
      rintro e V4 ⟨rfl, rfl⟩
      clear hop
      go_wp2_with fail
      exact ⟨rfl, HE.out⟩
    · have HO := hide ho
      have HD := hide hd
      clear ho hd
      have hx : openE d (t' :: q') (fun q' => argsE c [] (d + 1) q') = argsE c [] (d + 1) q' := by
        unfold openE
        rw [if_pos HO.out, if_neg HD.out]
        rfl
      rw [hx]
      clear hx
      obtain ⟨xx, hxx⟩ : ∃ xx, argsE c [] (d + 1) q' = xx := ⟨_, rfl⟩
      rw [hxx]
      have HX := hide hxx
      clear hxx
      go_enter Tryz.func106, Tryz.ntmps106
      go_wp2_with fail
      (with_reducible refine hi1.out.mono ?_)
      rintro e V1 ⟨rfl, hb1⟩
      have hr := HR1.out.below hb1
      have hop := hide (open_ok' hr HD.out)
      have HB1 := hide hb1
      clear hr hb1 hi1 hWa hWb hW1
      go_wp2_with fail
      (with_reducible refine hop.out.mono ?_)
      rintro e V2 ⟨rfl, hr2, ho2⟩
      have hmu := must_any hr2 [40]
      rw [HO.out] at hmu
      simp only [if_true, List.tail_cons] at hmu
      have Hmu := hide hmu
      have HO2 := hide ho2
      clear hmu ho2 hr2 hop
      go_wp2_with fail
      (with_reducible refine Hmu.out.mono ?_)
      rintro e V3 ⟨rfl, hr3, ho3⟩
      have hne3 : ∀ {p : Nat} {cs : Array Value} {T : TypeId}, W1.heap[p]? = some (.cells cs T (0, 0)) → 83 ≠ T → p ∉ [b] := fun hp hT hm => by
        simp at hm
        subst hm
        rw [HR1.out.blk] at hp
        injection hp with hp
        injection hp with _ hp
        exact hT hp
      have hO3 : Only [b] W1 V3 := ((Only.of_below HB1.out _).trans HO2.out).trans ho3
      have HS : Hid (∃ (ks : List Ex) (rj : List Tkn) (vj vk : Value), (Value.slice none 0 0) = vk ∧ rj.length ≤ q'.length ∧ ks.length < c.most ∧ argsE c ks (d + 1) rj = xx ∧ CallAt w B X b vl ts d vt nds c w.heap.size (w.heap.size + 1) V3 ks rj vj vk) := hide
        ⟨[], q', vt, .slice none 0 0, rfl, Nat.le_refl _, hm0, HX.out, by simpa [Value.ownBlock, flats] using hr3, World.ownsRow_nil _ _ _ _, fun g e => (by cases e), HCH.out.trans (Rch.of_only vt hO3),
          hO3.cells_of HC1.out (hne3 HC1.out (by decide)), hO3.cells_of HP1.out (hne3 HP1.out (by decide))⟩
      have hfew := H.out.few
      simp only [List.length_cons] at hfew
      clear hne3 hO3 hr3 ho3 Hmu HO2 HB1
      go_wp2_with fail
      obtain ⟨i0, hi0, hz0, hz1, hz2⟩ := intinfo_parts
      have Hi0 := hide hi0
      have Hz0 := hide hz0
      have Hz1 := hide hz1
      have Hz2 := hide hz2
      clear hi0 hz0 hz1 hz2
      go_loopw [7] (fun v7 wr => Hid (∃ (ks : List Ex) (rj : List Tkn) (vj vk : Value), v7 = vk ∧ rj.length ≤ q'.length ∧ ks.length < c.most ∧ argsE c ks (d + 1) rj = xx ∧ CallAt w B X b vl ts d vt nds c w.heap.size (w.heap.size + 1) wr ks rj vj vk)) (fun _ wr => ts.length - readAt b wr)
      case atStart => exact HS
      case round =>
        obtain ⟨ks, rj, vj, vk, rfl, hlen, hks, hrest, hC⟩ := hrel.out
        obtain ⟨ka, kc, rfl⟩ := row_form hC.row
        have hBr := Nat.le_trans hB hC.rch.only.size
        have hc0 : Calls Tryz.prog 46 #[.pointer (some ⟨b, 0, none⟩), .int .i64 0] wr _ := HI.out _ 0 (d + 1) rj wr vj (nds ++ flats ks nds.length) (by omega) (by simp only [rank, List.length_cons] at hk ⊢; omega) hC.rd hBr
        have Hc0 := hide hc0
        have Hrest := hide hrest
        have hjl := hC.rd.left
        have HC := hide hC
        clear hrel HS hc0 hC hrest
        go_wp2_with fail
        (with_reducible refine Hc0.out.mono ?_)
        rintro e V4 hp4
        have hC := HC.out
        cases hq4 : lvlE 0 (d + 1) rj with
        | error p =>
          obtain ⟨er, q4⟩ := p
          rw [hq4] at hp4
          have HE : Hid (XPost w B X b vl ts d vt nds xx (gaveUp er) V4) := hide (by
            rw [← Hrest.out, argsE_eq, hq4]
            exact ⟨rfl, hp4.2.1, hC.rch.err hp4.2.2⟩)
          obtain ⟨rfl, _, _⟩ := hp4
          clear hq4 hC HC
          go_wp2_with fail
          exact ⟨rfl, HE.out⟩
        | ok p =>
          obtain ⟨a, q4⟩ := p
          rw [hq4] at hp4
          obtain ⟨rfl, v4, hr4, hch4⟩ := hp4
          have hsz4 := row_size (n := 0) (by omega) hq4
          have hap := a.size_pos
          have hlt4 := (lvlE_suf (n := 0) (by omega) hq4).2
          have hfew4 := hr4.few
          simp only [List.length_append, Ex.flat_len, flats_len] at hfew4
          have hrow4 : V4.ownsRow B 3 1 (.slice ka ks.length kc) ks.length (nums (ends ks nds.length)) := owns_only hC.row hch4.only fun g e hm => by
            rcases hC.row.2 with ⟨e2, _⟩ | ⟨g', cap, cur, e2, _, hg', _⟩
            · rw [e2] at e
              cases e
            · rw [e2] at e
              simp only [Value.ownBlock, Option.some.injEq] at e
              subst e
              exact hC.rd.apart hg' (by decide) (by decide) hm
          obtain ⟨z, hz⟩ : ∃ z : Nat, (nds ++ flats ks nds.length).length + a.size - 1 = z := ⟨_, rfl⟩
          have hz' : Hid (z = nds.length + sizes ks + a.size - 1) := hide (by rw [← hz]; simp only [List.length_append, flats_len])
          rw [hz]
          have Hrow5 := hide (hrow4.alloc (.cells #[.int .i64 (z : Int)] 3))
          have HN5 := hide (heap_alloc0 V4 (.cells #[.int .i64 (z : Int)] 3))
          have hB4 := Nat.le_trans hBr hch4.only.size
          have HZ5 : Hid ((V4.alloc (.cells #[.int .i64 (z : Int)] 3)).heap.size = V4.heap.size + 1) := hide (by simp)
          have HR4 := hide hr4
          have HCH4 := hide hch4
          have hbz := (Below.refl V4.heap.size V4).alloc (Nat.le_refl _) (.cells #[.int .i64 (z : Int)] 3)
          have HBZ := hide hbz
          have hx4 := argsE_eq c ks (d + 1) rj
          rw [hq4, Hrest.out] at hx4
          have HX4 := hide hx4
          clear hz hC hr4 hch4 hrow4 hq4 hbz hx4
          go_wp2_with ((refine wpList_append_lies _ rfl (.tmp 22) (.tmp 25) _ rfl B 3 i0 (.int .i64 0) 1 8 Tryz.underlying30 Hi0.out Hz0.out Hz1.out Hz2.out rfl (by decide) (.slice ka ks.length kc) ks.length (nums (ends ks nds.length)) rfl Hrow5.out ⟨V4.heap.size, 0, none⟩ 1 1 [.int .i64 (z : Int)] rfl rfl (World.news_of_block (cs := #[.int .i64 (z : Int)]) HN5.out) (by simp [Value.oneCell']) (by decide) (by unfold maxLen; omega) (by omega) (by rw [HZ5.out]; omega) (V4.heap.size + 1) HZ5.out ?_; intro g cap w6 hown6 hgrow6 hat6 hlt6))
          have hM := HC.out.more HR4.out HCH4.out hz'.out HBZ.out hgrow6 hown6 rfl (by
            rcases hat6 with e | e
            · exact .inl e
            · exact .inr (by omega)) hlt6
          have hzr := HCH4.out.only.size
          clear hgrow6 hown6 hat6 hlt6 HR4 HCH4 HBZ Hrow5 HN5 HZ5 HC Hc0
          have his := hide (is_any hM.rd [44])
          have HM := hide hM
          have hB6 := hM.rch.only.size
          clear hM
          go_wp2_with fail
          (with_reducible refine his.out.mono ?_)
          rintro e V7 ⟨rfl, hb7⟩
          have hM7 := HM.out.below hb7
          clear hb7 HM his
          obtain ⟨m1, hm1⟩ : ∃ m1, isH [44] q4 = m1 := ⟨_, rfl⟩
          rw [hm1]
          obtain ⟨z0, z1, z2, _⟩ := cells3 hM7.hc
          cases m1 with
          | true =>
            have h41 := isH_excl (s' := [41]) hm1 (by decide)
            have hx4 := HX4.out
            simp only [ExR.next, hm1, h41, Bool.true_and, Bool.false_and, Bool.or_false, if_true] at hx4
            by_cases hmost : ks.length + 1 = c.most
            · rw [if_pos (by simpa using hmost)] at hx4
              have HE : Hid (XPost w B X b vl ts d vt nds xx (gaveUp 14) V7) := hide (by
                rw [hx4]
                exact ⟨rfl, hM7.rd.err, hM7.rch.only⟩)
              have f1 : ((((ks.length + 1 : Nat) : Int)) == (c.most : Int)) = true := by simp; omega
              have f2 : (((ks.length : Int) + 1) == (c.most : Int)) = true := by simp; omega
              have HM7 := hide hM7
              clear hM7 hx4 hm1 h41 HX4 HX Hrest hmost
              go_wp2_with fail
              exact ⟨rfl, HE.out⟩
            · rw [if_neg (by simpa using hmost)] at hx4
              have hk1 : ks.length + 1 < c.most := by omega
              obtain ⟨t4, q5, rfl⟩ := isH_ne hm1
              have f1 : ((((ks.length + 1 : Nat) : Int)) == (c.most : Int)) = false := by simp; omega
              have f2 : (((ks.length : Int) + 1) == (c.most : Int)) = false := by simp; omega
              have his := hide (is_any hM7.rd [41])
              rw [h41] at his
              have HM7 := hide hM7
              have HX5 := hide hx4
              clear hM7 hx4 hm1 h41 HX4 HX Hrest hmost
              go_wp2_with fail
              (with_reducible refine his.out.mono ?_)
              rintro e V8 ⟨rfl, hb8⟩
              have hM8 := HM7.out.below hb8
              obtain ⟨c0', c1', c2', c3', cf'⟩ := cells4 hM8.rd.blk
              have cf1' := cf' 1
              have hst := hM8.turn (only_setCell V8 b 1 (.int .i64 (((ts.length - (q5.length + 1) : Nat) : Int) + 1))) hM8.rd.step
              simp only [List.length_cons] at hlt4
              have HP : Hid (∃ (kt : List Ex) (rj : List Tkn) (vj vk : Value), (Value.slice (some ⟨g, 0, none⟩) (ks.length + 1) cap) = vk ∧ rj.length ≤ q'.length ∧ kt.length < c.most ∧ argsE c kt (d + 1) rj = xx ∧ CallAt w B X b vl ts d vt nds c w.heap.size (w.heap.size + 1) (V8.setCell ⟨b, 1, none⟩ (.int .i64 (((ts.length - (q5.length + 1) : Nat) : Int) + 1))) kt rj vj vk) :=
                hide ⟨ks ++ [a], q5, v4, _, rfl, by omega, by simp; omega, HX5.out.symm, hst⟩
              have hwr : ts.length - readAt b (V8.setCell ⟨b, 1, none⟩ (.int .i64 (((ts.length - (q5.length + 1) : Nat) : Int) + 1))) < ts.length - readAt b wr := by
                rw [hst.rd.left, hjl]
                omega
              clear hM8 hst hb8 HM7 his HX5 cf' z0 z1 z2
              go_wp2_with fail
              go_roundw
              case rel => exact HP
              case measure => exact hwr
          | false =>
            have hx4 := HX4.out
            simp only [ExR.next, hm1, Bool.false_and, Bool.false_or, Bool.false_eq_true, if_false] at hx4
            have his := hide (is_any hM7.rd [41])
            have HM7 := hide hM7
            have HX5 := hide hx4
            clear hM7 hx4 hm1 HX4 HX Hrest
            go_wp2_with fail
            (with_reducible refine his.out.mono ?_)
            rintro e V8 ⟨rfl, hb8⟩
            have hM8 := HM7.out.below hb8
            obtain ⟨m2, hm2⟩ : ∃ m2, isH [41] q4 = m2 := ⟨_, rfl⟩
            rw [hm2]
            have hx5 := HX5.out
            rw [hm2] at hx5
            obtain ⟨z0, z1, z2, _⟩ := cells3 hM8.hc
            clear hb8 his HM7 HX5
            cases m2 with
            | true =>
              simp only [Bool.true_and] at hx5
              by_cases hle : ks.length + 1 < c.least
              · rw [if_pos (by simpa using hle)] at hx5
                have HE : Hid (XPost w B X b vl ts d vt nds xx (gaveUp 14) V8) := hide (by
                  rw [hx5]
                  exact ⟨rfl, hM8.rd.err, hM8.rch.only⟩)
                have f1 : decide ((((ks.length + 1 : Nat) : Int)) < (c.least : Int)) = true := by simp; omega
                have f2 : decide (((ks.length : Int) + 1) < (c.least : Int)) = true := by simp; omega
                have f3 : ((ks.length : Int) + 1) < (c.least : Int) := by omega
                have HM8 := hide hM8
                clear hM8 hx5 hm2 hle
                go_wp2_with fail
                exact ⟨rfl, HE.out⟩
              · rw [if_neg (by simpa using hle)] at hx5
                unfold shutE at hx5
                rw [if_pos hm2] at hx5
                obtain ⟨t4, q5, rfl⟩ := isH_ne hm2
                have hmu := must_any hM8.rd [41]
                rw [hm2] at hmu
                simp only [if_true, List.tail_cons] at hmu hx5
                have Hmu := hide hmu
                have f1 : decide ((((ks.length + 1 : Nat) : Int)) < (c.least : Int)) = false := by simp; omega
                have f2 : decide (((ks.length : Int) + 1) < (c.least : Int)) = false := by simp; omega
                have f3 : (c.least : Int) ≤ ((ks.length : Int) + 1) := by omega
                have hf8 : (nds ++ flats (ks ++ [a]) nds.length).length + 1 + q5.length ≤ 1000000 := by
                  have := hM8.rd.few
                  simp only [List.length_cons] at this
                  omega
                have HM8 := hide hM8
                have HX5 := hide hx5
                clear hM8 hx5 hm2 hle hmu
                go_wp2_with fail
                (with_reducible refine Hmu.out.mono ?_)
                rintro e V9 ⟨rfl, hr9, ho9⟩
                have hM9 := HM8.out.turn ho9 hr9
                clear Hmu HM8 hr9 ho9 z0 z1 z2
                obtain ⟨c0', c1', c2', c3', cf'⟩ := cells4 hM9.rd.blk
                have cf2' := cf' 2
                have hd12 := H.out.hd
                have hfw9 := hf8
                have hr10 := hM9.rd.deep (d' := d) (by omega)
                have ho10 := only_setCell V9 b 2 (.int .i64 (d : Int))
                have hne : ∀ {p : Nat} {cs : Array Value} {T : TypeId}, V9.heap[p]? = some (.cells cs T (0, 0)) → 83 ≠ T → p ∉ [b] := fun hp hT hm => by
                  simp at hm
                  subst hm
                  rw [hM9.rd.blk] at hp
                  injection hp with hp
                  injection hp with _ hp
                  exact hT hp
                have hc10 := ho10.cells_of hM9.hc (hne hM9.hc (by decide))
                have hp10 := ho10.cells_of hM9.hp (hne hM9.hp (by decide))
                have hrow10 := owns_only hM9.row ho10 fun x e hm => owns_not hM9.row hM9.rd.blk (by decide) (by simp at hm; rw [← hm]; exact e)
                obtain ⟨V10, hV10⟩ : ∃ V10, V9.setCell ⟨b, 2, none⟩ (.int .i64 (d : Int)) = V10 := ⟨_, rfl⟩
                rw [hV10] at hr10 ho10 hc10 hp10 hrow10
                obtain ⟨z0, z1, z2, _⟩ := cells3 hc10
                obtain ⟨y0, y1, _⟩ := two_cells hp10
                have hch10 := hM9.rch.trans (Rch.of_only v4 ho10)
                have hel : (ends (ks ++ [a]) nds.length).length = ks.length + 1 := by rw [ends_len]; simp
                have hnd : Calls Tryz.prog 110 #[.pointer (some ⟨b, 0, none⟩), .agg #[.int .u8 c.op, .int .u8 0, .int .i64 0, .string ⟨#[]⟩, .string ⟨#[]⟩, .slice none 0 0, .int .i64 c.line, .int .i64 c.col], .slice (some ⟨g, 0, none⟩) (ks.length + 1) cap]
                    V10 (fun e w' => e = .returned (.int .i64 ((nds ++ flats (ks ++ [a]) nds.length).length : Int)) ∧ ∃ vt', RdAt w' B X b vl ts q5 d vt' (nds ++ flats (ks ++ [a]) nds.length ++ [⟨⟨c.op, v0, [], c.line, c.col⟩, ends (ks ++ [a]) nds.length⟩]) ∧ Rch b V10 v4 w' vt') := by
                  have hq := node_any (hr10.free fun x hx => List.mem_append.2 (.inr hx)) hfw9 (Nat.le_trans hB hch10.only.size) ⟨c.op, v0, [], c.line, c.col⟩ (ends (ks ++ [a]) nds.length) (some ⟨g, 0, none⟩) cap (by rw [hel]; rw [List.length_append] at hrow10; exact hrow10) (fun x hx hm => by
                    simp only [Value.ownBlock, Option.some.injEq] at hx
                    subst hx
                    have h1 := hM9.new g rfl
                    have h2 := H.out.xl g hm
                    omega)
                  rw [hel] at hq
                  exact hq
                obtain ⟨zz, hzz⟩ : ∃ zz : Nat, (nds ++ flats (ks ++ [a]) nds.length).length = zz := ⟨_, rfl⟩
                rw [hzz] at hnd
                have hzz' : Hid (zz = nds.length + sizes (ks ++ [a])) := hide (by rw [← hzz]; simp only [List.length_append, flats_len])
                have HN := hide hnd
                have HCH10 := hide hch10
                clear hzz hnd hch10 hrow10 hp10 hc10 ho10 hr10 hne cf' hM9
                go_wp2_with fail
                (with_reducible refine HN.out.mono ?_)
                rintro e V11 ⟨rfl, v11, hr11, hch11⟩
                have HE : Hid (XPost w B X b vl ts d vt nds xx (.returned (.int .i64 (zz : Int))) V11) := hide (by
                  rw [HX5.out]
                  refine ⟨?_, v11, ?_, HCH10.out.trans hch11⟩
                  · rw [hzz'.out]
                    rfl
                  · rw [flat_many, ← List.append_assoc]
                    exact hr11)
                clear hr11 hch11 HN HCH10 HX5 hV10 z0 z1 z2 y0 y1
                go_wp2_with fail
                go_ret
                exact HE.out
            | false =>
              simp only [Bool.false_and, Bool.false_eq_true, if_false] at hx5
              unfold shutE at hx5
              rw [if_neg (by rw [hm2]; decide)] at hx5
              have hmu := must_any hM8.rd [41]
              rw [hm2] at hmu
              simp only [Bool.false_eq_true, if_false] at hmu
              have Hmu := hide hmu
              have HM8 := hide hM8
              have HX5 := hide hx5
              clear hM8 hx5 hm2 hmu
              go_wp2_with fail
              (with_reducible refine Hmu.out.mono ?_)
              rintro e V9 ⟨rfl, hb9⟩
              have hM9 := HM8.out.below hb9
              have HE : Hid (XPost w B X b vl ts d vt nds xx (gaveUp 4) V9) := hide (by
                rw [HX5.out]
                exact ⟨rfl, hM9.rd.err, hM9.rch.only⟩)
              clear hM9 Hmu HM8 hb9
              go_wp2_with fail
              exact ⟨rfl, HE.out⟩
  · have HO : Hid (isH [40] q = false) := hide (by simpa using ho)
    rw [HO.out] at hi1
    clear ho
    go_enter Tryz.func106, Tryz.ntmps106
    go_wp2_with fail
    (with_reducible refine hi1.out.mono ?_)
    rintro e V1 ⟨rfl, hb1⟩
    have hr := HR1.out.below hb1
    have hmu := must_any hr [40]
    rw [HO.out] at hmu
    simp only [Bool.false_eq_true, if_false] at hmu
    have Hmu := hide hmu
    have HR := hide hr
    have HB1 := hide hb1
    clear hr hb1 hi1 hmu HR1 hWa hWb hW1
    go_wp2_with fail
    (with_reducible refine Hmu.out.mono ?_)
    rintro e V2 ⟨rfl, hb2⟩
    have HE : Hid (XPost w B X b vl ts d vt nds (openE d q fun q' => argsE c [] (d + 1) q') (gaveUp 4) V2) := hide (by
      unfold openE
      rw [HO.out]
      exact ⟨rfl, (HR.out.below hb2).err, HCH.out.err ((Only.of_below HB1.out _).trans (Only.of_below (hb2.mono (Nat.le_refl _)) _))⟩)
    clear hb2 Hmu
    go_wp2_with fail
    exact ⟨rfl, HE.out⟩
end Go.Proofs.YtkjndabbkfbkaaaGreatDoor
