/- expr: a level's contract; row, ahead. -/
import Derived.Test.YtkjndabbkfbkaaaGreatDoorEx3
import Derived.Test.YtkjndabbkfbkaaaGreatDoorEx4
namespace Go.Proofs.YtkjndabbkfbkaaaGreatDoor
open Go Go.RowKit

/-- What is handed back of a level. -/
def XPost (w : World) (B : Nat) (X : List Nat) (b : Nat) (vl : Value) (ts : List Tkn) (d : Nat) (vt : Value) (nds : List Nd) (x : ExR) (e : Ending) (w' : World) : Prop :=
  match x with
  | .ok p => e = .returned (.int .i64 ((nds.length + p.1.size - 1 : Nat) : Int)) ∧ ∃ vt', RdAt w' B X b vl ts p.2 d vt' (nds ++ p.1.flat nds.length) ∧ Rch b w vt w' vt'
  | .error p => e = gaveUp p.1 ∧ RdErr w' b vl (ts.length - p.2.length) ∧ Only (b :: vt.ownBlock.toList) w w'
/-- A level's contract, as long as there is less to be read. -/
def LvlIH (k B b : Nat) (vl : Value) (ts : List Tkn) : Prop := ∀ (X : List Nat) (n d : Nat) (r : List Tkn) (w : World) (vt : Value) (nds : List Nd), n ≤ 7 → rank (.lvl n) r < k → RdAt w B X b vl ts r d vt nds → B ≤ w.heap.size →
  Calls Tryz.prog 46 #[.pointer (some ⟨b, 0, none⟩), .int .i64 (n : Int)] w (XPost w B X b vl ts d vt nds (lvlE n d r))
theorem XPost.pre {w w1 w' : World} {B b d : Nat} {X : List Nat} {vl vt v1 : Value} {ts : List Tkn} {nds1 : List Nd} {er : Int} {q : List Tkn} {e : Ending} (h : XPost w1 B X b vl ts d v1 nds1 (.error (er, q)) e w') (hr : Rch b w vt w1 v1) :
    e = gaveUp er ∧ RdErr w' b vl (ts.length - q.length) ∧ Only (b :: vt.ownBlock.toList) w w' := ⟨h.1, h.2.1, hr.err h.2.2⟩
theorem RdAt.err {w : World} {B b d : Nat} {X : List Nat} {vl vt : Value} {ts r : List Tkn} {nds : List Nd} (h : RdAt w B X b vl ts r d vt nds) : RdErr w b vl (ts.length - r.length) := ⟨_, _, h.blk⟩
theorem Only.cells_of {S : List Nat} {w w' : World} {p : Nat} {o : Obj} (h : Only S w w') (hp : w.heap[p]? = some o) (hn : p ∉ S) : w'.heap[p]? = some o := (h.block p (lt_of_heap hp) hn).trans hp
/-- A block of another type is neither the reader nor its row. -/
theorem RdAt.apart {w : World} {B b d p : Nat} {X : List Nat} {vl vt : Value} {ts r : List Tkn} {nds : List Nd} {cs : Array Value} {t : TypeId} (h : RdAt w B X b vl ts r d vt nds) (hp : w.heap[p]? = some (.cells cs t (0, 0))) (h1 : 83 ≠ t) (h2 : 34 ≠ t) : p ∉ b :: vt.ownBlock.toList := by
  intro hm
  rcases List.mem_cons.1 hm with rfl | hm
  · rw [h.blk] at hp
    injection hp with hp
    injection hp with _ hp
    exact h1 hp
  · exact h.tree.not hp h2 (by simpa using hm)
/-- How far reading is, as the reader tells. -/
def readAt (b : Nat) (w : World) : Nat := match w.cell? ⟨b, 1, none⟩ with | some v => (intOf v).toNat | none => 0
theorem RdAt.left {w : World} {B b d : Nat} {X : List Nat} {vl vt : Value} {ts r : List Tkn} {nds : List Nd} (h : RdAt w B X b vl ts r d vt nds) : ts.length - readAt b w = r.length := by
  obtain ⟨_, c1, _⟩ := cells4 h.blk
  have := h.suf.len
  unfold readAt
  rw [c1]
  simp only [intOf]
  omega
theorem row_size {n d : Nat} {r : List Tkn} {a : Ex} {q : List Tkn} (h7 : n ≤ 7) (h : lvlE n d r = .ok (a, q)) : a.size + q.length ≤ r.length := exE_size (.lvl n) d r h7 a q h
theorem flat_two (h : Hd) (a b : Ex) (k : Nat) : (Ex.mk h [a, b]).flat k = a.flat k ++ b.flat (k + a.size) ++ [⟨h, [k + a.size - 1, k + a.size + b.size - 1]⟩] := by
  simp [Ex.flat, flats, ends]
theorem flat_one (h : Hd) (a : Ex) (k : Nat) : (Ex.mk h [a]).flat k = a.flat k ++ [⟨h, [k + a.size - 1]⟩] := by
  simp [Ex.flat, flats, ends]
theorem ownsRow_two (w : World) (B i j : Nat) (hB : B ≤ w.heap.size) : (w.alloc (.cells #[.int .i64 (i : Int), .int .i64 (j : Int)] 3)).ownsRow B 3 1 (.slice (some ⟨w.heap.size, 0, none⟩) [i, j].length 2) [i, j].length (nums [i, j]) :=
  ⟨rfl, .inr ⟨w.heap.size, 2, _, rfl, hB, heap_alloc0 w _, Nat.le_refl _, by decide, rfl, rfl⟩⟩
set_option maxRecDepth 100000 in
set_option maxHeartbeats 4000000 in
theorem row_any {k B b : Nat} {X : List Nat} {vl : Value} {ts : List Tkn} (ih : LvlIH k B b vl ts) {n d : Nat} {r : List Tkn} {w : World} {vt : Value} {nds : List Nd} (h5 : n ≤ 5) (hn2 : n ≠ 2) (hk : rank (.lvl n) r ≤ k) (h : RdAt w B X b vl ts r d vt nds) (hB : B ≤ w.heap.size)
    {g m : Nat} {l : List (List UInt8 × Int)} (hl : l = opsL n) (hlm : l.length = m) (hm : m ≤ 6) (ho : OpsIs w g l) (many : Bool) (hmany : Hid (many = decide (n ≠ 3))) :
    Calls Tryz.prog 102 #[.pointer (some ⟨b, 0, none⟩), .int .i64 (n : Int), .bool many, .slice (some ⟨g, 0, none⟩) m m] w (XPost w B X b vl ts d vt nds (lvlE n d r)) := by
  have hc := ih X (n + 1) d r w vt nds (by omega) (by simp only [rank] at hk ⊢; omega) h hB
  rw [Int.natCast_succ] at hc
  have hx := lvlE_row (d := d) (r := r) h5 hn2
  have Hx := hide hx
  have Hc := hide hc
  have H := hide h
  have Ho := hide ho
  have HI := hide ih
  have hn5 : (n : Int) ≤ 5 := by omega
  have hg := lt_of_heap ho
  have hga := hide (h.apart ho (by decide) (by decide))
  clear hc h ho hx ih
  go_enter Tryz.func102, Tryz.ntmps102
  go_wp2_with fail
  (with_reducible refine Hc.out.mono ?_)
  rintro e V1 hp
  cases hq1 : lvlE (n + 1) d r with
  | error p =>
    obtain ⟨er, q⟩ := p
    rw [hq1] at hp
    obtain ⟨rfl, hp1, hp2⟩ := hp
    have HE : Hid (XPost w B X b vl ts d vt nds (lvlE n d r) (gaveUp er) V1) := hide (by
      rw [Hx.out, hq1]
      exact ⟨rfl, hp1, hp2⟩)
    clear hp1 hp2 hq1 Hx
    go_wp2_with fail
    exact ⟨rfl, HE.out⟩
  | ok p =>
    obtain ⟨a, q⟩ := p
    rw [hq1] at hp
    obtain ⟨rfl, v1, hp1, hp2⟩ := hp
    have hsz := row_size (n := n + 1) (by omega) hq1
    have hlen := (lvlE_suf (n := n + 1) (by omega) hq1).2
    have hfew := H.out.few
    have HS : Hid (∃ (aj : Ex) (rj : List Tkn) (vj : Value), (Value.int .i64 ((nds.length + a.size - 1 : Nat) : Int)) = .int .i64 ((nds.length + aj.size - 1 : Nat) : Int) ∧ rj.length < r.length ∧ aj.size + rj.length ≤ r.length ∧ RdAt V1 B X b vl ts rj d vj (nds ++ aj.flat nds.length) ∧ Rch b w vt V1 vj ∧ rowE n aj d rj = lvlE n d r) :=
      hide ⟨a, q, v1, rfl, hlen, hsz, hp1, hp2, by rw [Hx.out, hq1]; rfl⟩
    clear hp1 hp2 hq1 Hx Hc hsz hlen
    go_wp2_with fail
    go_loopw [9] (fun v9 wr => Hid (∃ (aj : Ex) (rj : List Tkn) (vj : Value), v9 = .int .i64 ((nds.length + aj.size - 1 : Nat) : Int) ∧ rj.length < r.length ∧ aj.size + rj.length ≤ r.length ∧ RdAt wr B X b vl ts rj d vj (nds ++ aj.flat nds.length) ∧ Rch b w vt wr vj ∧ rowE n aj d rj = lvlE n d r)) (fun _ wr => ts.length - readAt b wr)
    case atStart => exact HS
    case round =>
      obtain ⟨aj, rj, vj, rfl, hj1, hj2, hj3, hj4, hj5⟩ := hrel.out
      have hbw := Nat.le_trans hB hj4.only.size
      have hpl := hide (place_any hj3)
      have HJ3 := hide hj3
      have HJ4 := hide hj4
      have HJ5 := hide hj5
      have hgj := hide (hj4.only.cells_of Ho.out hga.out)
      have hsp := aj.size_pos
      have hjl := hj3.left
      clear hrel HS hj3 hj4 hj5
      go_wp2_with fail
      (with_reducible refine hpl.out.mono ?_)
      rintro e V2 ⟨rfl, hb2⟩
      have hin := infix_any (HJ3.out.below hb2) (l := l) (OpsIs.below hgj.out hb2) (by omega)
      rw [hlm] at hin
      have Hin := hide hin
      have HB2 := hide hb2
      clear hin hb2 hpl
      go_wp2_with fail
      (with_reducible refine Hin.out.mono ?_)
      rintro e V3 ⟨rfl, hb3⟩
      have hb23 := HB2.out.trans (hb3.mono HB2.out.size)
      have HB3 := hide hb23
      obtain ⟨o, hoe⟩ : ∃ o, infixH rj l = o := ⟨_, rfl⟩
      rw [hoe]
      have hre := rowE_eq n aj d rj
      rw [← hl, hoe] at hre
      clear hb3 hb23 Hin HB2
      by_cases ho0 : o = 0
      · subst ho0
        have HP : Hid (XPost w B X b vl ts d vt nds (lvlE n d r) (.returned (.int .i64 ((nds.length + aj.size - 1 : Nat) : Int))) (V3.alloc (.cells #[.int .i64 (plH rj).1, .int .i64 (plH rj).2] 26))) := hide (by
          rw [← HJ5.out, hre, if_pos rfl]
          have hbz := (HB3.out.trans ((Below.refl V3.heap.size V3).alloc (Nat.le_refl _) (.cells #[.int .i64 (plH rj).1, .int .i64 (plH rj).2] 26) |>.mono HB3.out.size))
          exact ⟨rfl, vj, HJ3.out.below hbz, HJ4.out.trans (Rch.of_below vj hbz)⟩)
        clear hre hoe HJ3 HJ4 HJ5 HB3 hgj
        go_wp2_with fail
        go_ret
        exact HP.out
      · have ho1 : (o == 0) = false := by simpa using ho0
        obtain ⟨t, q, rfl⟩ : ∃ t q, rj = t :: q := infixH_ne (l := l) (by rw [hoe]; exact ho0)
        rw [if_neg ho0] at hre
        simp only [List.tail_cons] at hre
        have hba := HB3.out.trans ((Below.refl V3.heap.size V3).alloc (Nat.le_refl _) (.cells #[.int .i64 (plH (t :: q)).1, .int .i64 (plH (t :: q)).2] 26) |>.mono HB3.out.size)
        have hpz := heap_alloc0 V3 (.cells #[.int .i64 (plH (t :: q)).1, .int .i64 (plH (t :: q)).2] 26)
        obtain ⟨V4, hV4⟩ : ∃ V4, V3.alloc (.cells #[.int .i64 (plH (t :: q)).1, .int .i64 (plH (t :: q)).2] 26) = V4 := ⟨_, rfl⟩
        rw [hV4] at hba hpz
        have hr4 := HJ3.out.below hba
        obtain ⟨c0, c1, c2, c3, cf⟩ := cells4 hr4.blk
        have cf1 := cf 1
        have hbig := hr4.big
        have hr5 := hr4.step
        have ho5 := only_setCell V4 b 1 (.int .i64 (((ts.length - (q.length + 1) : Nat) : Int) + 1))
        have hch5 : Rch b w vt (V4.setCell ⟨b, 1, none⟩ (.int .i64 (((ts.length - (q.length + 1) : Nat) : Int) + 1))) vj := (HJ4.out.trans (Rch.of_below vj hba)).trans (Rch.of_only vj ho5)
        have hc6 := HI.out X (n + 1) d q _ vj _ (by omega) (by simp only [rank, List.length_cons] at hk hj1 ⊢; omega) hr5 (Nat.le_trans hB hch5.only.size)
        rw [Int.natCast_succ] at hc6
        have hp5 := (ho5.cells_of hpz (by
          have h1 := lt_of_heap hr4.blk
          intro hm
          simp at hm
          have h2 := hr4.apart hpz (by decide) (by decide)
          exact h2 (by simp [hm])))
        have hpa := hide (hr5.apart hp5 (by decide) (by decide))
        have HP5 := hide hp5
        have Hc6 := hide hc6
        have HCH := hide hch5
        have HR5 := hide hr5
        have HRE := hide hre
        have hwz := HI.out
        clear cf hr4 hr5 ho5 hch5 hc6 hpz hba hp5 hre HJ3 HJ4 HB3 hgj hwz
        go_wp2_with fail
        (with_reducible refine Hc6.out.mono ?_)
        rintro e V6 hp6
        cases hq6 : lvlE (n + 1) d q with
        | error p =>
          obtain ⟨er, q6⟩ := p
          rw [hq6] at hp6
          have HE : Hid (XPost w B X b vl ts d vt nds (lvlE n d r) (gaveUp er) V6) := hide (by
            rw [← HJ5.out, HRE.out, hq6]
            obtain ⟨_, h2, h3⟩ := XPost.pre hp6 HCH.out
            exact ⟨rfl, h2, h3⟩)
          obtain ⟨rfl, _, _⟩ := hp6
          clear hq6 HRE HJ5 HCH HP5 hpa
          go_wp2_with fail
          exact ⟨rfl, HE.out⟩
        | ok p =>
          obtain ⟨bx, q6⟩ := p
          rw [hq6] at hp6
          obtain ⟨rfl, v6, hp6, hch6⟩ := hp6
          have hsz6 := row_size (n := n + 1) (by omega) hq6
          have hbp := bx.size_pos
          have hlen6 := (lvlE_suf (n := n + 1) (by omega) hq6).2
          have hfew6 := hp6.few
          simp only [List.length_append, Ex.flat_len] at hfew6 hp6 hch6 ⊢
          simp only [List.length_cons] at hj1 hj2
          have hB6 := Nat.le_trans (Nat.le_trans hB HCH.out.only.size) hch6.only.size
          have hpl6 := hch6.only.cells_of HP5.out hpa.out
          obtain ⟨z0, z1, _⟩ := two_cells hpl6
          have hkv := ownsRow_two V6 B (nds.length + aj.size - 1) (nds.length + aj.size + bx.size - 1) hB6
          have hbz : Below V6.heap.size V6 (V6.alloc (.cells #[.int .i64 ((nds.length + aj.size - 1 : Nat) : Int), .int .i64 ((nds.length + aj.size + bx.size - 1 : Nat) : Int)] 3)) := (Below.refl _ _).alloc (Nat.le_refl _) _
          have hnd : Calls Tryz.prog 110 #[.pointer (some ⟨b, 0, none⟩), .agg #[.int .u8 o, .int .u8 0, .int .i64 0, .string ⟨#[]⟩, .string ⟨#[]⟩, .slice none 0 0, .int .i64 (plH (t :: q)).1, .int .i64 (plH (t :: q)).2], .slice (some ⟨V6.heap.size, 0, none⟩) 2 2]
              (V6.alloc (.cells #[.int .i64 ((nds.length + aj.size - 1 : Nat) : Int), .int .i64 ((nds.length + aj.size + bx.size - 1 : Nat) : Int)] 3)) _ := node_any (hp6.below hbz) (by simp only [List.length_append, Ex.flat_len]; omega) (Nat.le_trans hB6 hbz.size) ⟨o, v0, [], (plH (t :: q)).1, (plH (t :: q)).2⟩ [nds.length + aj.size - 1, nds.length + aj.size + bx.size - 1] (some ⟨V6.heap.size, 0, none⟩) 2 hkv (fun x hx hm => by
            simp only [Value.ownBlock, Option.some.injEq] at hx
            have h1 := hp6.xl x hm
            omega)
          obtain ⟨z, hz⟩ : ∃ z : Nat, (nds ++ aj.flat nds.length ++ bx.flat (nds.length + aj.size)).length = z := ⟨_, rfl⟩
          rw [hz] at hnd
          have hz' : Hid (z = nds.length + aj.size + bx.size) := hide (by rw [← hz]; simp only [List.length_append, Ex.flat_len])
          have HN := hide hnd
          clear hz
          have HC6 := hide ((HCH.out.trans hch6).trans (Rch.of_below v6 hbz))
          clear hpl6 hbz hnd hp6 hch6 hkv HP5 hpa HCH
          go_wp2_with fail
          (with_reducible refine HN.out.mono ?_)
          rintro e V7 ⟨rfl, v7, hr7, hch7⟩
          have hfl : nds ++ aj.flat nds.length ++ bx.flat (nds.length + aj.size) ++ [⟨⟨o, v0, [], (plH (t :: q)).1, (plH (t :: q)).2⟩, [nds.length + aj.size - 1, nds.length + aj.size + bx.size - 1]⟩] = nds ++ (Ex.mk ⟨o, v0, [], (plH (t :: q)).1, (plH (t :: q)).2⟩ [aj, bx]).flat nds.length := by
            rw [flat_two, List.append_assoc, List.append_assoc, List.append_assoc]
          have hsm : (Ex.mk ⟨o, v0, [], (plH (t :: q)).1, (plH (t :: q)).2⟩ [aj, bx]).size = aj.size + bx.size + 1 := by simp [Ex.size, sizes]
          have hnum : z = nds.length + (Ex.mk ⟨o, v0, [], (plH (t :: q)).1, (plH (t :: q)).2⟩ [aj, bx]).size - 1 := by have := hz'.out; omega
          rw [hfl] at hr7
          have hC7 := HC6.out.trans hch7
          have hl7 := hr7.left
          have hl1 := H.out.suf.len
          clear hV4 c0 c1 c2 c3 cf1 z0 z1 hch7 HC6 HN hfl
          by_cases hn3 : n = 3
          · subst hn3
            have hnm : (!many) = true := by rw [hmany.out]; rfl
            have HP : Hid (XPost w B X b vl ts d vt nds (lvlE 3 d r) (.returned (.int .i64 (z : Int))) V7) := hide (by
              rw [← HJ5.out, HRE.out, hq6]
              simp only [ExR.next, if_true]
              exact ⟨by rw [hnum], v7, hr7, hC7⟩)
            clear hr7 hC7 HRE HJ5 hq6 hnum hl7 hjl
            go_wp2_with fail
            go_ret
            exact HP.out
          · have HP : Hid (∃ (ak : Ex) (rj : List Tkn) (vj : Value), (Value.int .i64 (z : Int)) = .int .i64 ((nds.length + ak.size - 1 : Nat) : Int) ∧ rj.length < r.length ∧ ak.size + rj.length ≤ r.length ∧ RdAt V7 B X b vl ts rj d vj (nds ++ ak.flat nds.length) ∧ Rch b w vt V7 vj ∧ rowE n ak d rj = lvlE n d r) := hide ⟨_, q6, v7, by rw [hnum], by omega, by omega, hr7, hC7, by
              rw [← HJ5.out, HRE.out, hq6]
              simp only [ExR.next, if_neg hn3]⟩
            have hwr : ts.length - readAt b V7 < ts.length - readAt b wr := by
              rw [hl7, hjl]
              simp only [List.length_cons]
              omega
            have hnm : (!many) = false := by rw [hmany.out]; simp [hn3]
            clear hr7 hC7 HRE HJ5 hq6 hnum hl7 hjl
            go_wp2_with fail
            go_roundw
            case rel => exact HP
            case measure => exact hwr
theorem ownsRow_one (w : World) (B i : Nat) (hB : B ≤ w.heap.size) : (w.alloc (.cells #[.int .i64 (i : Int)] 3)).ownsRow B 3 1 (.slice (some ⟨w.heap.size, 0, none⟩) [i].length 1) [i].length (nums [i]) :=
  ⟨rfl, .inr ⟨w.heap.size, 1, _, rfl, hB, heap_alloc0 w _, Nat.le_refl _, by decide, rfl, rfl⟩⟩
set_option maxRecDepth 100000 in
set_option maxHeartbeats 4000000 in
theorem ahead_any {k B b : Nat} {X : List Nat} {vl : Value} {ts : List Tkn} (ih : LvlIH k B b vl ts) {n d : Nat} {r : List Tkn} {w : World} {vt : Value} {nds : List Nd} (h26 : n = 2 ∨ n = 6) (hk : rank (.lvl n) r ≤ k) (h : RdAt w B X b vl ts r d vt nds) (hB : B ≤ w.heap.size)
    (s : List UInt8) (hs : s = preW n) (o : Int) (ho : o = preO n) :
    Calls Tryz.prog 103 #[.pointer (some ⟨b, 0, none⟩), .int .i64 (n : Int), .string ⟨s.toArray⟩, .int .u8 o] w (XPost w B X b vl ts d vt nds (lvlE n d r)) := by
  have hi := hide (is_any h s)
  have hn6 : (n : Int) ≤ 6 := by omega
  have Hx := hide (lvlE_pre (d := d) (r := r) h26)
  have H := hide h
  have HI := hide ih
  have Hs := hide hs
  have Ho := hide ho
  have hn7 : n ≤ 6 := by omega
  clear h ih hs ho h26
  by_cases hp : isH (preW n) r = true
  · have hx := Hx.out
    rw [if_pos hp] at hx
    obtain ⟨t, q, rfl⟩ := isH_ne hp
    rw [← Hs.out] at hp
    rw [hp] at hi
    have HX := hide hx
    clear Hx hx
    go_enter Tryz.func103, Tryz.ntmps103
    go_wp2_with fail
    (with_reducible refine hi.out.mono ?_)
    rintro e V1 ⟨rfl, hb1⟩
    have hpl := hide (place_any (H.out.below hb1))
    have HB1 := hide hb1
    clear hb1 hi hp
    go_wp2_with fail
    (with_reducible refine hpl.out.mono ?_)
    rintro e V2 ⟨rfl, hb2⟩
    have hba := (HB1.out.trans (hb2.mono HB1.out.size)).trans ((Below.refl V2.heap.size V2).alloc (Nat.le_refl _) (.cells #[.int .i64 (plH (t :: q)).1, .int .i64 (plH (t :: q)).2] 26) |>.mono (Nat.le_trans HB1.out.size hb2.size))
    have hpz := heap_alloc0 V2 (.cells #[.int .i64 (plH (t :: q)).1, .int .i64 (plH (t :: q)).2] 26)
    obtain ⟨V3, hV3⟩ : ∃ V3, V2.alloc (.cells #[.int .i64 (plH (t :: q)).1, .int .i64 (plH (t :: q)).2] 26) = V3 := ⟨_, rfl⟩
    rw [hV3] at hba hpz
    have hr3 := H.out.below hba
    have hpa := hide (hr3.apart hpz (by decide) (by decide))
    have HPZ := hide hpz
    have HBA := hide hba
    clear hpz hba hb2 HB1 hpl
    by_cases hd : d = 12
    · have hop := hide (open_deep (hd ▸ hr3))
      have HE : Hid (XPost w B X b vl ts d vt nds (lvlE n d (t :: q)) (gaveUp 12) V3) := hide (by
        rw [HX.out, if_pos hd]
        exact ⟨rfl, hr3.err, Only.of_below HBA.out _⟩)
      clear hr3 HX HBA hd
      go_wp2_with fail
      (with_reducible refine hop.out.mono ?_)
      rintro e V4 ⟨rfl, rfl⟩
      clear hop
      go_wp2_with fail
      exact ⟨rfl, HE.out⟩
    · have hop := hide (open_ok' hr3 hd)
      have hx := HX.out
      rw [if_neg hd, List.tail_cons] at hx
      have HX := hide hx
      clear hr3 hx
      go_wp2_with fail
      (with_reducible refine hop.out.mono ?_)
      rintro e V4 ⟨rfl, hr4, ho4⟩
      obtain ⟨c0, c1, c2, c3, cf⟩ := cells4 hr4.blk
      have cf1 := cf 1
      have hbig := hr4.big
      have hr5 := hr4.step
      have ho5 := only_setCell V4 b 1 (.int .i64 (((ts.length - (q.length + 1) : Nat) : Int) + 1))
      have hch5 : Rch b w vt (V4.setCell ⟨b, 1, none⟩ (.int .i64 (((ts.length - (q.length + 1) : Nat) : Int) + 1))) vt := (Rch.of_below vt HBA.out).trans (Rch.of_only vt (ho4.trans ho5))
      have hp5 := (ho4.trans ho5).cells_of HPZ.out (fun hm => hpa.out (by simp at hm; simp [hm]))
      have hc6 := HI.out X n (d + 1) q _ vt nds (by omega) (by simp only [rank, List.length_cons] at hk ⊢; omega) hr5 (Nat.le_trans hB hch5.only.size)
      have hpa5 := hide (hr5.apart hp5 (by decide) (by decide))
      have Hc6 := hide hc6
      have HP5 := hide hp5
      have HCH := hide hch5
      clear hr4 hr5 ho4 ho5 hch5 hp5 hc6 cf hop hpa HPZ HBA
      go_wp2_with fail
      (with_reducible refine Hc6.out.mono ?_)
      rintro e V6 hp6
      cases hq6 : lvlE n (d + 1) q with
      | error p =>
        obtain ⟨er, q6⟩ := p
        rw [hq6] at hp6
        have HE : Hid (XPost w B X b vl ts d vt nds (lvlE n d (t :: q)) (gaveUp er) V6) := hide (by
          rw [HX.out, hq6]
          obtain ⟨_, h2, h3⟩ := XPost.pre hp6 HCH.out
          exact ⟨rfl, h2, h3⟩)
        obtain ⟨rfl, _, _⟩ := hp6
        clear hq6 HX HCH HP5 hpa5
        go_wp2_with fail
        exact ⟨rfl, HE.out⟩
      | ok p =>
        obtain ⟨bx, q6⟩ := p
        rw [hq6] at hp6
        obtain ⟨rfl, v6, hp6, hch6⟩ := hp6
        have hsz6 := row_size (n := n) (by omega) hq6
        have hbp := bx.size_pos
        have hfew6 := hp6.few
        simp only [List.length_append, Ex.flat_len] at hfew6
        have hB6 := Nat.le_trans (Nat.le_trans hB HCH.out.only.size) hch6.only.size
        have hpl6 := hch6.only.cells_of HP5.out hpa5.out
        obtain ⟨e0, e1, e2, e3, ef⟩ := cells4 hp6.blk
        have ef2 := ef 2
        have hd12 := H.out.hd
        have hfw := H.out.few
        simp only [List.length_cons] at hfw
        have hr7 := hp6.deep (d' := d) (by omega)
        have ho7 := only_setCell V6 b 2 (.int .i64 (d : Int))
        have hpl7 := ho7.cells_of hpl6 (fun hm => by
          have h2 := hp6.apart hpl6 (by decide) (by decide)
          exact h2 (by simp at hm; simp [hm]))
        obtain ⟨V7, hV7⟩ : ∃ V7, V6.setCell ⟨b, 2, none⟩ (.int .i64 (d : Int)) = V7 := ⟨_, rfl⟩
        rw [hV7] at hr7 ho7 hpl7
        obtain ⟨z0, z1, _⟩ := two_cells hpl7
        have hB7 := Nat.le_trans hB6 ho7.size
        have hkv := ownsRow_one V7 B (nds.length + bx.size - 1) hB7
        have hbz : Below V7.heap.size V7 (V7.alloc (.cells #[.int .i64 ((nds.length + bx.size - 1 : Nat) : Int)] 3)) := (Below.refl _ _).alloc (Nat.le_refl _) _
        have hnd : Calls Tryz.prog 110 #[.pointer (some ⟨b, 0, none⟩), .agg #[.int .u8 o, .int .u8 0, .int .i64 0, .string ⟨#[]⟩, .string ⟨#[]⟩, .slice none 0 0, .int .i64 (plH (t :: q)).1, .int .i64 (plH (t :: q)).2], .slice (some ⟨V7.heap.size, 0, none⟩) 1 1]
              (V7.alloc (.cells #[.int .i64 ((nds.length + bx.size - 1 : Nat) : Int)] 3)) _ := node_any (hr7.below hbz) (by simp only [List.length_append, Ex.flat_len]; omega) (Nat.le_trans hB7 hbz.size) ⟨o, v0, [], (plH (t :: q)).1, (plH (t :: q)).2⟩ [nds.length + bx.size - 1] (some ⟨V7.heap.size, 0, none⟩) 1 hkv (fun x hx hm => by
            simp only [Value.ownBlock, Option.some.injEq] at hx
            have h1 := hr7.xl x hm
            omega)
        obtain ⟨z, hz⟩ : ∃ z : Nat, (nds ++ bx.flat nds.length).length = z := ⟨_, rfl⟩
        rw [hz] at hnd
        have hz' : Hid (z = nds.length + bx.size) := hide (by rw [← hz]; simp only [List.length_append, Ex.flat_len])
        have HN := hide hnd
        have HC7 := hide (((HCH.out.trans hch6).trans (Rch.of_only v6 ho7)).trans (Rch.of_below v6 hbz))
        have hdd : ((d + 1 : Nat) : Int) - 1 = (d : Int) := by omega
        clear hz hnd hkv hbz hpl7 hpl6 hr7 ho7 hp6 hch6 HP5 hpa5 HCH ef Hc6
        go_wp2_with fail
        (with_reducible refine HN.out.mono ?_)
        rintro e V8 ⟨rfl, v8, hr8, hch8⟩
        have HE : Hid (XPost w B X b vl ts d vt nds (lvlE n d (t :: q)) (.returned (.int .i64 (z : Int))) V8) := hide (by
          rw [HX.out, hq6]
          have hz := hz'.out
          refine ⟨?_, v8, ?_, HC7.out.trans hch8⟩
          · rw [show z = nds.length + (Ex.mk ⟨preO n, v0, [], (plH (t :: q)).1, (plH (t :: q)).2⟩ [bx]).size - 1 by simp [Ex.size, sizes]; omega]
          · rw [flat_one, ← List.append_assoc, ← Ho.out]
            exact hr8)
        clear hr8 hch8 HX HN HC7 hq6 hV3 hV7 z0 z1
        go_wp2_with fail
        go_ret
        exact HE.out
  · have hp' : isH (preW n) r = false := by simpa using hp
    have hx := Hx.out
    rw [if_neg hp] at hx
    rw [← Hs.out] at hp'
    rw [hp'] at hi
    have HX := hide hx
    clear Hx hx
    go_enter Tryz.func103, Tryz.ntmps103
    go_wp2_with fail
    (with_reducible refine hi.out.mono ?_)
    rintro e V1 ⟨rfl, hb1⟩
    have hc := HI.out X (n + 1) d r V1 vt nds (by omega) (by simp only [rank] at hk ⊢; omega) (H.out.below hb1) (Nat.le_trans hB hb1.size)
    rw [Int.natCast_succ] at hc
    have Hc := hide hc
    have HB1 := hide hb1
    clear hc hb1 hi hp hp'
    go_wp2_with fail
    (with_reducible refine Hc.out.mono ?_)
    rintro e V2 hp2
    cases hq2 : lvlE (n + 1) d r with
    | error p =>
      obtain ⟨er, q2⟩ := p
      rw [hq2] at hp2
      have HE : Hid (XPost w B X b vl ts d vt nds (lvlE n d r) (gaveUp er) V2) := hide (by
        rw [HX.out, hq2]
        obtain ⟨_, h2, h3⟩ := XPost.pre hp2 (Rch.of_below vt HB1.out)
        exact ⟨rfl, h2, h3⟩)
      obtain ⟨rfl, _, _⟩ := hp2
      clear hq2 HX
      go_wp2_with fail
      exact ⟨rfl, HE.out⟩
    | ok p =>
      obtain ⟨bx, q2⟩ := p
      rw [hq2] at hp2
      obtain ⟨rfl, v2, hp2, hch2⟩ := hp2
      have HE : Hid (XPost w B X b vl ts d vt nds (lvlE n d r) (.returned (.int .i64 ((nds.length + bx.size - 1 : Nat) : Int))) V2) := hide (by
        rw [HX.out, hq2]
        exact ⟨rfl, v2, hp2, (Rch.of_below vt HB1.out).trans hch2⟩)
      clear hq2 HX hp2 hch2
      go_wp2_with fail
      go_ret
      exact HE.out
end Go.Proofs.YtkjndabbkfbkaaaGreatDoor
