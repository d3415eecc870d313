/- expr: the levels. -/
import Derived.Test.YtkjndabbkfbkaaaGreatDoorEx7
namespace Go.Proofs.YtkjndabbkfbkaaaGreatDoor
open Go Go.RowKit

theorem XPost.back {w W : World} {B b d : Nat} {X : List Nat} {vl vt : Value} {ts : List Tkn} {nds : List Nd} {x : ExR} {e : Ending} {w' : World} (hb : Below w.heap.size w W) (h : XPost W B X b vl ts d vt nds x e w') : XPost w B X b vl ts d vt nds x e w' := by
  cases x with
  | error p => exact ⟨h.1, h.2.1, (Rch.of_below vt hb).err h.2.2⟩
  | ok p =>
    obtain ⟨h1, v', h2, h3⟩ := h
    exact ⟨h1, v', h2, (Rch.of_below vt hb).trans h3⟩
set_option maxRecDepth 100000 in
theorem or_any {k B b : Nat} {X : List Nat} {vl : Value} {ts : List Tkn} (ih : LvlIH k B b vl ts) {d : Nat} {r : List Tkn} {w : World} {vt : Value} {nds : List Nd} (hk : rank (.lvl 0) r ≤ k) (h : RdAt w B X b vl ts r d vt nds) (hB : B ≤ w.heap.size) :
    Calls Tryz.prog 69 #[.pointer (some ⟨b, 0, none⟩)] w (XPost w B X b vl ts d vt nds (lvlE 0 d r)) := by
  have hb : Below w.heap.size w (w.alloc (.cells #[.string ⟨#[111, 114]⟩, .int .u8 4] 126)) := (Below.refl _ w).alloc (Nat.le_refl _) _
  have hr : Calls Tryz.prog 102 #[.pointer (some ⟨b, 0, none⟩), .int .i64 0, .bool true, .slice (some ⟨w.heap.size, 0, none⟩) 1 1] (w.alloc (.cells #[.string ⟨#[111, 114]⟩, .int .u8 4] 126)) _ :=
    (row_any ih (n := 0) (by decide) (by decide) hk (h.below hb) (Nat.le_trans hB hb.size) (l := [([111, 114], 4)]) (g := w.heap.size) (m := 1) rfl rfl (by decide) (heap_alloc0 w _) true (by show _ = _; rfl)).mono fun e w' q => XPost.back hb q
  have HR := hide hr
  clear hr hb h hk ih
  go_enter Tryz.func69, Tryz.ntmps69
  go_wp2_with fail
  (with_reducible refine HR.out.mono ?_)
  rintro e V hp
  cases hq : lvlE 0 d r with
  | error p =>
    obtain ⟨er, q⟩ := p
    rw [hq] at hp
    have HE := hide hp
    obtain ⟨rfl, _, _⟩ := hp
    clear hq
    go_wp2_with fail
    exact ⟨rfl, HE.out⟩
  | ok p =>
    obtain ⟨a, q⟩ := p
    rw [hq] at hp
    have HE := hide hp
    obtain ⟨rfl, _⟩ := hp
    rw [← hq] at HE
    clear hq
    go_wp2_with fail
    go_ret
    exact HE.out
set_option maxRecDepth 100000 in
theorem and_any {k B b : Nat} {X : List Nat} {vl : Value} {ts : List Tkn} (ih : LvlIH k B b vl ts) {d : Nat} {r : List Tkn} {w : World} {vt : Value} {nds : List Nd} (hk : rank (.lvl 1) r ≤ k) (h : RdAt w B X b vl ts r d vt nds) (hB : B ≤ w.heap.size) :
    Calls Tryz.prog 70 #[.pointer (some ⟨b, 0, none⟩)] w (XPost w B X b vl ts d vt nds (lvlE 1 d r)) := by
  have hb : Below w.heap.size w (w.alloc (.cells #[.string ⟨#[97, 110, 100]⟩, .int .u8 5] 126)) := (Below.refl _ w).alloc (Nat.le_refl _) _
  have hr : Calls Tryz.prog 102 #[.pointer (some ⟨b, 0, none⟩), .int .i64 1, .bool true, .slice (some ⟨w.heap.size, 0, none⟩) 1 1] (w.alloc (.cells #[.string ⟨#[97, 110, 100]⟩, .int .u8 5] 126)) _ :=
    (row_any ih (n := 1) (by decide) (by decide) hk (h.below hb) (Nat.le_trans hB hb.size) (l := [([97, 110, 100], 5)]) (g := w.heap.size) (m := 1) rfl rfl (by decide) (heap_alloc0 w _) true (by show _ = _; rfl)).mono fun e w' q => XPost.back hb q
  have HR := hide hr
  clear hr hb h hk ih
  go_enter Tryz.func70, Tryz.ntmps70
  go_wp2_with fail
  (with_reducible refine HR.out.mono ?_)
  rintro e V hp
  cases hq : lvlE 1 d r with
  | error p =>
    obtain ⟨er, q⟩ := p
    rw [hq] at hp
    have HE := hide hp
    obtain ⟨rfl, _, _⟩ := hp
    clear hq
    go_wp2_with fail
    exact ⟨rfl, HE.out⟩
  | ok p =>
    obtain ⟨a, q⟩ := p
    rw [hq] at hp
    have HE := hide hp
    obtain ⟨rfl, _⟩ := hp
    rw [← hq] at HE
    clear hq
    go_wp2_with fail
    go_ret
    exact HE.out
set_option maxRecDepth 100000 in
theorem cmp_any {k B b : Nat} {X : List Nat} {vl : Value} {ts : List Tkn} (ih : LvlIH k B b vl ts) {d : Nat} {r : List Tkn} {w : World} {vt : Value} {nds : List Nd} (hk : rank (.lvl 3) r ≤ k) (h : RdAt w B X b vl ts r d vt nds) (hB : B ≤ w.heap.size) :
    Calls Tryz.prog 72 #[.pointer (some ⟨b, 0, none⟩)] w (XPost w B X b vl ts d vt nds (lvlE 3 d r)) := by
  have hb : Below w.heap.size w (w.alloc (.cells #[.string ⟨#[61]⟩, .int .u8 7, .string ⟨#[60, 62]⟩, .int .u8 8, .string ⟨#[60]⟩, .int .u8 9, .string ⟨#[60, 61]⟩, .int .u8 10, .string ⟨#[62]⟩, .int .u8 11, .string ⟨#[62, 61]⟩, .int .u8 12] 126)) := (Below.refl _ w).alloc (Nat.le_refl _) _
  have hr : Calls Tryz.prog 102 #[.pointer (some ⟨b, 0, none⟩), .int .i64 3, .bool false, .slice (some ⟨w.heap.size, 0, none⟩) 6 6] (w.alloc (.cells #[.string ⟨#[61]⟩, .int .u8 7, .string ⟨#[60, 62]⟩, .int .u8 8, .string ⟨#[60]⟩, .int .u8 9, .string ⟨#[60, 61]⟩, .int .u8 10, .string ⟨#[62]⟩, .int .u8 11, .string ⟨#[62, 61]⟩, .int .u8 12] 126)) _ :=
    (row_any ih (n := 3) (by decide) (by decide) hk (h.below hb) (Nat.le_trans hB hb.size) (l := [([61], 7), ([60, 62], 8), ([60], 9), ([60, 61], 10), ([62], 11), ([62, 61], 12)]) (g := w.heap.size) (m := 6) rfl rfl (by decide) (heap_alloc0 w _) false (by show _ = _; rfl)).mono fun e w' q => XPost.back hb q
  have HR := hide hr
  clear hr hb h hk ih
  go_enter Tryz.func72, Tryz.ntmps72
  go_wp2_with fail
  (with_reducible refine HR.out.mono ?_)
  rintro e V hp
  cases hq : lvlE 3 d r with
  | error p =>
    obtain ⟨er, q⟩ := p
    rw [hq] at hp
    have HE := hide hp
    obtain ⟨rfl, _, _⟩ := hp
    clear hq
    go_wp2_with fail
    exact ⟨rfl, HE.out⟩
  | ok p =>
    obtain ⟨a, q⟩ := p
    rw [hq] at hp
    have HE := hide hp
    obtain ⟨rfl, _⟩ := hp
    rw [← hq] at HE
    clear hq
    go_wp2_with fail
    go_ret
    exact HE.out
set_option maxRecDepth 100000 in
theorem sum_any {k B b : Nat} {X : List Nat} {vl : Value} {ts : List Tkn} (ih : LvlIH k B b vl ts) {d : Nat} {r : List Tkn} {w : World} {vt : Value} {nds : List Nd} (hk : rank (.lvl 4) r ≤ k) (h : RdAt w B X b vl ts r d vt nds) (hB : B ≤ w.heap.size) :
    Calls Tryz.prog 73 #[.pointer (some ⟨b, 0, none⟩)] w (XPost w B X b vl ts d vt nds (lvlE 4 d r)) := by
  have hb : Below w.heap.size w (w.alloc (.cells #[.string ⟨#[43]⟩, .int .u8 13, .string ⟨#[45]⟩, .int .u8 14] 126)) := (Below.refl _ w).alloc (Nat.le_refl _) _
  have hr : Calls Tryz.prog 102 #[.pointer (some ⟨b, 0, none⟩), .int .i64 4, .bool true, .slice (some ⟨w.heap.size, 0, none⟩) 2 2] (w.alloc (.cells #[.string ⟨#[43]⟩, .int .u8 13, .string ⟨#[45]⟩, .int .u8 14] 126)) _ :=
    (row_any ih (n := 4) (by decide) (by decide) hk (h.below hb) (Nat.le_trans hB hb.size) (l := [([43], 13), ([45], 14)]) (g := w.heap.size) (m := 2) rfl rfl (by decide) (heap_alloc0 w _) true (by show _ = _; rfl)).mono fun e w' q => XPost.back hb q
  have HR := hide hr
  clear hr hb h hk ih
  go_enter Tryz.func73, Tryz.ntmps73
  go_wp2_with fail
  (with_reducible refine HR.out.mono ?_)
  rintro e V hp
  cases hq : lvlE 4 d r with
  | error p =>
    obtain ⟨er, q⟩ := p
    rw [hq] at hp
    have HE := hide hp
    obtain ⟨rfl, _, _⟩ := hp
    clear hq
    go_wp2_with fail
    exact ⟨rfl, HE.out⟩
  | ok p =>
    obtain ⟨a, q⟩ := p
    rw [hq] at hp
    have HE := hide hp
    obtain ⟨rfl, _⟩ := hp
    rw [← hq] at HE
    clear hq
    go_wp2_with fail
    go_ret
    exact HE.out
set_option maxRecDepth 100000 in
theorem prod_any {k B b : Nat} {X : List Nat} {vl : Value} {ts : List Tkn} (ih : LvlIH k B b vl ts) {d : Nat} {r : List Tkn} {w : World} {vt : Value} {nds : List Nd} (hk : rank (.lvl 5) r ≤ k) (h : RdAt w B X b vl ts r d vt nds) (hB : B ≤ w.heap.size) :
    Calls Tryz.prog 74 #[.pointer (some ⟨b, 0, none⟩)] w (XPost w B X b vl ts d vt nds (lvlE 5 d r)) := by
  have hb : Below w.heap.size w (w.alloc (.cells #[.string ⟨#[42]⟩, .int .u8 15, .string ⟨#[47]⟩, .int .u8 16] 126)) := (Below.refl _ w).alloc (Nat.le_refl _) _
  have hr : Calls Tryz.prog 102 #[.pointer (some ⟨b, 0, none⟩), .int .i64 5, .bool true, .slice (some ⟨w.heap.size, 0, none⟩) 2 2] (w.alloc (.cells #[.string ⟨#[42]⟩, .int .u8 15, .string ⟨#[47]⟩, .int .u8 16] 126)) _ :=
    (row_any ih (n := 5) (by decide) (by decide) hk (h.below hb) (Nat.le_trans hB hb.size) (l := [([42], 15), ([47], 16)]) (g := w.heap.size) (m := 2) rfl rfl (by decide) (heap_alloc0 w _) true (by show _ = _; rfl)).mono fun e w' q => XPost.back hb q
  have HR := hide hr
  clear hr hb h hk ih
  go_enter Tryz.func74, Tryz.ntmps74
  go_wp2_with fail
  (with_reducible refine HR.out.mono ?_)
  rintro e V hp
  cases hq : lvlE 5 d r with
  | error p =>
    obtain ⟨er, q⟩ := p
    rw [hq] at hp
    have HE := hide hp
    obtain ⟨rfl, _, _⟩ := hp
    clear hq
    go_wp2_with fail
    exact ⟨rfl, HE.out⟩
  | ok p =>
    obtain ⟨a, q⟩ := p
    rw [hq] at hp
    have HE := hide hp
    obtain ⟨rfl, _⟩ := hp
    rw [← hq] at HE
    clear hq
    go_wp2_with fail
    go_ret
    exact HE.out
set_option maxRecDepth 100000 in
theorem not_any {k B b : Nat} {X : List Nat} {vl : Value} {ts : List Tkn} (ih : LvlIH k B b vl ts) {d : Nat} {r : List Tkn} {w : World} {vt : Value} {nds : List Nd} (hk : rank (.lvl 2) r ≤ k) (h : RdAt w B X b vl ts r d vt nds) (hB : B ≤ w.heap.size) :
    Calls Tryz.prog 71 #[.pointer (some ⟨b, 0, none⟩)] w (XPost w B X b vl ts d vt nds (lvlE 2 d r)) := by
  have hr : Calls Tryz.prog 103 #[.pointer (some ⟨b, 0, none⟩), .int .i64 2, .string ⟨#[110, 111, 116]⟩, .int .u8 6] w _ := ahead_any ih (n := 2) (by decide) hk h hB [110, 111, 116] rfl 6 rfl
  have HR := hide hr
  clear hr h hk ih
  go_enter Tryz.func71, Tryz.ntmps71
  go_wp2_with fail
  (with_reducible refine HR.out.mono ?_)
  rintro e V hp
  cases hq : lvlE 2 d r with
  | error p =>
    obtain ⟨er, q⟩ := p
    rw [hq] at hp
    have HE := hide hp
    obtain ⟨rfl, _, _⟩ := hp
    clear hq
    go_wp2_with fail
    exact ⟨rfl, HE.out⟩
  | ok p =>
    obtain ⟨a, q⟩ := p
    rw [hq] at hp
    have HE := hide hp
    obtain ⟨rfl, _⟩ := hp
    rw [← hq] at HE
    clear hq
    go_wp2_with fail
    go_ret
    exact HE.out
set_option maxRecDepth 100000 in
theorem minus_any {k B b : Nat} {X : List Nat} {vl : Value} {ts : List Tkn} (ih : LvlIH k B b vl ts) {d : Nat} {r : List Tkn} {w : World} {vt : Value} {nds : List Nd} (hk : rank (.lvl 6) r ≤ k) (h : RdAt w B X b vl ts r d vt nds) (hB : B ≤ w.heap.size) :
    Calls Tryz.prog 75 #[.pointer (some ⟨b, 0, none⟩)] w (XPost w B X b vl ts d vt nds (lvlE 6 d r)) := by
  have hr : Calls Tryz.prog 103 #[.pointer (some ⟨b, 0, none⟩), .int .i64 6, .string ⟨#[45]⟩, .int .u8 17] w _ := ahead_any ih (n := 6) (by decide) hk h hB [45] rfl 17 rfl
  have HR := hide hr
  clear hr h hk ih
  go_enter Tryz.func75, Tryz.ntmps75
  go_wp2_with fail
  (with_reducible refine HR.out.mono ?_)
  rintro e V hp
  cases hq : lvlE 6 d r with
  | error p =>
    obtain ⟨er, q⟩ := p
    rw [hq] at hp
    have HE := hide hp
    obtain ⟨rfl, _, _⟩ := hp
    clear hq
    go_wp2_with fail
    exact ⟨rfl, HE.out⟩
  | ok p =>
    obtain ⟨a, q⟩ := p
    rw [hq] at hp
    have HE := hide hp
    obtain ⟨rfl, _⟩ := hp
    rw [← hq] at HE
    clear hq
    go_wp2_with fail
    go_ret
    exact HE.out
theorem index_lvl0 (x0 x1 x2 x3 x4 x5 x6 x7 : Value) (w : World) : (Instr.index 105 (.agg #[x0, x1, x2, x3, x4, x5, x6, x7]) (.int .i64 0)).run Tryz.prog w = .ok x0 w := by kernel_rfl
theorem index_lvl1 (x0 x1 x2 x3 x4 x5 x6 x7 : Value) (w : World) : (Instr.index 105 (.agg #[x0, x1, x2, x3, x4, x5, x6, x7]) (.int .i64 1)).run Tryz.prog w = .ok x1 w := by kernel_rfl
theorem index_lvl2 (x0 x1 x2 x3 x4 x5 x6 x7 : Value) (w : World) : (Instr.index 105 (.agg #[x0, x1, x2, x3, x4, x5, x6, x7]) (.int .i64 2)).run Tryz.prog w = .ok x2 w := by kernel_rfl
theorem index_lvl3 (x0 x1 x2 x3 x4 x5 x6 x7 : Value) (w : World) : (Instr.index 105 (.agg #[x0, x1, x2, x3, x4, x5, x6, x7]) (.int .i64 3)).run Tryz.prog w = .ok x3 w := by kernel_rfl
theorem index_lvl4 (x0 x1 x2 x3 x4 x5 x6 x7 : Value) (w : World) : (Instr.index 105 (.agg #[x0, x1, x2, x3, x4, x5, x6, x7]) (.int .i64 4)).run Tryz.prog w = .ok x4 w := by kernel_rfl
theorem index_lvl5 (x0 x1 x2 x3 x4 x5 x6 x7 : Value) (w : World) : (Instr.index 105 (.agg #[x0, x1, x2, x3, x4, x5, x6, x7]) (.int .i64 5)).run Tryz.prog w = .ok x5 w := by kernel_rfl
theorem index_lvl6 (x0 x1 x2 x3 x4 x5 x6 x7 : Value) (w : World) : (Instr.index 105 (.agg #[x0, x1, x2, x3, x4, x5, x6, x7]) (.int .i64 6)).run Tryz.prog w = .ok x6 w := by kernel_rfl
theorem index_lvl7 (x0 x1 x2 x3 x4 x5 x6 x7 : Value) (w : World) : (Instr.index 105 (.agg #[x0, x1, x2, x3, x4, x5, x6, x7]) (.int .i64 7)).run Tryz.prog w = .ok x7 w := by kernel_rfl
set_option maxRecDepth 100000 in
set_option maxHeartbeats 4000000 in
theorem level_any (B b : Nat) (vl : Value) (ts : List Tkn) : ∀ k, LvlIH k B b vl ts := by
  intro k
  induction k with
  | zero => intro X n d r w vt nds _ h; exact absurd h (Nat.not_lt_zero _)
  | succ k ih =>
    intro X n d r w vt nds h7 hk h hB
    have hmf : ∀ (fn : Fn) (first cap : Array Value) (w : World), (Instr.makeFunc fn first cap).run Tryz.prog w = .ok (.func fn first cap) w := fun _ _ _ _ => rfl
    have hk' : rank (.lvl n) r ≤ k := by omega
    obtain rfl | rfl | rfl | rfl | rfl | rfl | rfl | rfl : n = 0 ∨ n = 1 ∨ n = 2 ∨ n = 3 ∨ n = 4 ∨ n = 5 ∨ n = 6 ∨ n = 7 := by omega
    · have hix := fun W => index_lvl0 (.func (.func 69) #[.pointer (some ⟨b, 0, none⟩)] #[]) (.func (.func 70) #[.pointer (some ⟨b, 0, none⟩)] #[]) (.func (.func 71) #[.pointer (some ⟨b, 0, none⟩)] #[]) (.func (.func 72) #[.pointer (some ⟨b, 0, none⟩)] #[]) (.func (.func 73) #[.pointer (some ⟨b, 0, none⟩)] #[]) (.func (.func 74) #[.pointer (some ⟨b, 0, none⟩)] #[]) (.func (.func 75) #[.pointer (some ⟨b, 0, none⟩)] #[]) (.func (.func 76) #[.pointer (some ⟨b, 0, none⟩)] #[]) W
      have HR := hide (or_any ih hk' h hB)
      clear h hk hk' ih h7
      go_enter Tryz.func46, Tryz.ntmps46
      go_wp2_with fail
      (with_reducible refine HR.out.mono ?_)
      rintro e V hp
      cases hq : lvlE 0 d r with
      | error p =>
        obtain ⟨er, q⟩ := p
        rw [hq] at hp
        have HE := hide hp
        obtain ⟨rfl, _, _⟩ := hp
        clear hq
        go_wp2_with fail
        exact ⟨rfl, HE.out⟩
      | ok p =>
        obtain ⟨a, q⟩ := p
        rw [hq] at hp
        have HE := hide hp
        obtain ⟨rfl, _⟩ := hp
        rw [← hq] at HE
        clear hq
        go_wp2_with fail
        go_ret
        exact HE.out
    · have hix := fun W => index_lvl1 (.func (.func 69) #[.pointer (some ⟨b, 0, none⟩)] #[]) (.func (.func 70) #[.pointer (some ⟨b, 0, none⟩)] #[]) (.func (.func 71) #[.pointer (some ⟨b, 0, none⟩)] #[]) (.func (.func 72) #[.pointer (some ⟨b, 0, none⟩)] #[]) (.func (.func 73) #[.pointer (some ⟨b, 0, none⟩)] #[]) (.func (.func 74) #[.pointer (some ⟨b, 0, none⟩)] #[]) (.func (.func 75) #[.pointer (some ⟨b, 0, none⟩)] #[]) (.func (.func 76) #[.pointer (some ⟨b, 0, none⟩)] #[]) W
      have HR := hide (and_any ih hk' h hB)
      clear h hk hk' ih h7
      go_enter Tryz.func46, Tryz.ntmps46
      go_wp2_with fail
      (with_reducible refine HR.out.mono ?_)
      rintro e V hp
      cases hq : lvlE 1 d r with
      | error p =>
        obtain ⟨er, q⟩ := p
        rw [hq] at hp
        have HE := hide hp
        obtain ⟨rfl, _, _⟩ := hp
        clear hq
        go_wp2_with fail
        exact ⟨rfl, HE.out⟩
      | ok p =>
        obtain ⟨a, q⟩ := p
        rw [hq] at hp
        have HE := hide hp
        obtain ⟨rfl, _⟩ := hp
        rw [← hq] at HE
        clear hq
        go_wp2_with fail
        go_ret
        exact HE.out
    · have hix := fun W => index_lvl2 (.func (.func 69) #[.pointer (some ⟨b, 0, none⟩)] #[]) (.func (.func 70) #[.pointer (some ⟨b, 0, none⟩)] #[]) (.func (.func 71) #[.pointer (some ⟨b, 0, none⟩)] #[]) (.func (.func 72) #[.pointer (some ⟨b, 0, none⟩)] #[]) (.func (.func 73) #[.pointer (some ⟨b, 0, none⟩)] #[]) (.func (.func 74) #[.pointer (some ⟨b, 0, none⟩)] #[]) (.func (.func 75) #[.pointer (some ⟨b, 0, none⟩)] #[]) (.func (.func 76) #[.pointer (some ⟨b, 0, none⟩)] #[]) W
      have HR := hide (not_any ih hk' h hB)
      clear h hk hk' ih h7
      go_enter Tryz.func46, Tryz.ntmps46
      go_wp2_with fail
      (with_reducible refine HR.out.mono ?_)
      rintro e V hp
      cases hq : lvlE 2 d r with
      | error p =>
        obtain ⟨er, q⟩ := p
        rw [hq] at hp
        have HE := hide hp
        obtain ⟨rfl, _, _⟩ := hp
        clear hq
        go_wp2_with fail
        exact ⟨rfl, HE.out⟩
      | ok p =>
        obtain ⟨a, q⟩ := p
        rw [hq] at hp
        have HE := hide hp
        obtain ⟨rfl, _⟩ := hp
        rw [← hq] at HE
        clear hq
        go_wp2_with fail
        go_ret
        exact HE.out
    · have hix := fun W => index_lvl3 (.func (.func 69) #[.pointer (some ⟨b, 0, none⟩)] #[]) (.func (.func 70) #[.pointer (some ⟨b, 0, none⟩)] #[]) (.func (.func 71) #[.pointer (some ⟨b, 0, none⟩)] #[]) (.func (.func 72) #[.pointer (some ⟨b, 0, none⟩)] #[]) (.func (.func 73) #[.pointer (some ⟨b, 0, none⟩)] #[]) (.func (.func 74) #[.pointer (some ⟨b, 0, none⟩)] #[]) (.func (.func 75) #[.pointer (some ⟨b, 0, none⟩)] #[]) (.func (.func 76) #[.pointer (some ⟨b, 0, none⟩)] #[]) W
      have HR := hide (cmp_any ih hk' h hB)
      clear h hk hk' ih h7
      go_enter Tryz.func46, Tryz.ntmps46
      go_wp2_with fail
      (with_reducible refine HR.out.mono ?_)
      rintro e V hp
      cases hq : lvlE 3 d r with
      | error p =>
        obtain ⟨er, q⟩ := p
        rw [hq] at hp
        have HE := hide hp
        obtain ⟨rfl, _, _⟩ := hp
        clear hq
        go_wp2_with fail
        exact ⟨rfl, HE.out⟩
      | ok p =>
        obtain ⟨a, q⟩ := p
        rw [hq] at hp
        have HE := hide hp
        obtain ⟨rfl, _⟩ := hp
        rw [← hq] at HE
        clear hq
        go_wp2_with fail
        go_ret
        exact HE.out
    · have hix := fun W => index_lvl4 (.func (.func 69) #[.pointer (some ⟨b, 0, none⟩)] #[]) (.func (.func 70) #[.pointer (some ⟨b, 0, none⟩)] #[]) (.func (.func 71) #[.pointer (some ⟨b, 0, none⟩)] #[]) (.func (.func 72) #[.pointer (some ⟨b, 0, none⟩)] #[]) (.func (.func 73) #[.pointer (some ⟨b, 0, none⟩)] #[]) (.func (.func 74) #[.pointer (some ⟨b, 0, none⟩)] #[]) (.func (.func 75) #[.pointer (some ⟨b, 0, none⟩)] #[]) (.func (.func 76) #[.pointer (some ⟨b, 0, none⟩)] #[]) W
      have HR := hide (sum_any ih hk' h hB)
      clear h hk hk' ih h7
      go_enter Tryz.func46, Tryz.ntmps46
      go_wp2_with fail
      (with_reducible refine HR.out.mono ?_)
      rintro e V hp
      cases hq : lvlE 4 d r with
      | error p =>
        obtain ⟨er, q⟩ := p
        rw [hq] at hp
        have HE := hide hp
        obtain ⟨rfl, _, _⟩ := hp
        clear hq
        go_wp2_with fail
        exact ⟨rfl, HE.out⟩
      | ok p =>
        obtain ⟨a, q⟩ := p
        rw [hq] at hp
        have HE := hide hp
        obtain ⟨rfl, _⟩ := hp
        rw [← hq] at HE
        clear hq
        go_wp2_with fail
        go_ret
        exact HE.out
    · have hix := fun W => index_lvl5 (.func (.func 69) #[.pointer (some ⟨b, 0, none⟩)] #[]) (.func (.func 70) #[.pointer (some ⟨b, 0, none⟩)] #[]) (.func (.func 71) #[.pointer (some ⟨b, 0, none⟩)] #[]) (.func (.func 72) #[.pointer (some ⟨b, 0, none⟩)] #[]) (.func (.func 73) #[.pointer (some ⟨b, 0, none⟩)] #[]) (.func (.func 74) #[.pointer (some ⟨b, 0, none⟩)] #[]) (.func (.func 75) #[.pointer (some ⟨b, 0, none⟩)] #[]) (.func (.func 76) #[.pointer (some ⟨b, 0, none⟩)] #[]) W
      have HR := hide (prod_any ih hk' h hB)
      clear h hk hk' ih h7
      go_enter Tryz.func46, Tryz.ntmps46
      go_wp2_with fail
      (with_reducible refine HR.out.mono ?_)
      rintro e V hp
      cases hq : lvlE 5 d r with
      | error p =>
        obtain ⟨er, q⟩ := p
        rw [hq] at hp
        have HE := hide hp
        obtain ⟨rfl, _, _⟩ := hp
        clear hq
        go_wp2_with fail
        exact ⟨rfl, HE.out⟩
      | ok p =>
        obtain ⟨a, q⟩ := p
        rw [hq] at hp
        have HE := hide hp
        obtain ⟨rfl, _⟩ := hp
        rw [← hq] at HE
        clear hq
        go_wp2_with fail
        go_ret
        exact HE.out
    · have hix := fun W => index_lvl6 (.func (.func 69) #[.pointer (some ⟨b, 0, none⟩)] #[]) (.func (.func 70) #[.pointer (some ⟨b, 0, none⟩)] #[]) (.func (.func 71) #[.pointer (some ⟨b, 0, none⟩)] #[]) (.func (.func 72) #[.pointer (some ⟨b, 0, none⟩)] #[]) (.func (.func 73) #[.pointer (some ⟨b, 0, none⟩)] #[]) (.func (.func 74) #[.pointer (some ⟨b, 0, none⟩)] #[]) (.func (.func 75) #[.pointer (some ⟨b, 0, none⟩)] #[]) (.func (.func 76) #[.pointer (some ⟨b, 0, none⟩)] #[]) W
      have HR := hide (minus_any ih hk' h hB)
      clear h hk hk' ih h7
      go_enter Tryz.func46, Tryz.ntmps46
      go_wp2_with fail
      (with_reducible refine HR.out.mono ?_)
      rintro e V hp
      cases hq : lvlE 6 d r with
      | error p =>
        obtain ⟨er, q⟩ := p
        rw [hq] at hp
        have HE := hide hp
        obtain ⟨rfl, _, _⟩ := hp
        clear hq
        go_wp2_with fail
        exact ⟨rfl, HE.out⟩
      | ok p =>
        obtain ⟨a, q⟩ := p
        rw [hq] at hp
        have HE := hide hp
        obtain ⟨rfl, _⟩ := hp
        rw [← hq] at HE
        clear hq
        go_wp2_with fail
        go_ret
        exact HE.out
    · have hix := fun W => index_lvl7 (.func (.func 69) #[.pointer (some ⟨b, 0, none⟩)] #[]) (.func (.func 70) #[.pointer (some ⟨b, 0, none⟩)] #[]) (.func (.func 71) #[.pointer (some ⟨b, 0, none⟩)] #[]) (.func (.func 72) #[.pointer (some ⟨b, 0, none⟩)] #[]) (.func (.func 73) #[.pointer (some ⟨b, 0, none⟩)] #[]) (.func (.func 74) #[.pointer (some ⟨b, 0, none⟩)] #[]) (.func (.func 75) #[.pointer (some ⟨b, 0, none⟩)] #[]) (.func (.func 76) #[.pointer (some ⟨b, 0, none⟩)] #[]) W
      have HR := hide (atom_any ih hk' h hB)
      clear h hk hk' ih h7
      go_enter Tryz.func46, Tryz.ntmps46
      go_wp2_with fail
      (with_reducible refine HR.out.mono ?_)
      rintro e V hp
      cases hq : lvlE 7 d r with
      | error p =>
        obtain ⟨er, q⟩ := p
        rw [hq] at hp
        have HE := hide hp
        obtain ⟨rfl, _, _⟩ := hp
        clear hq
        go_wp2_with fail
        exact ⟨rfl, HE.out⟩
      | ok p =>
        obtain ⟨a, q⟩ := p
        rw [hq] at hp
        have HE := hide hp
        obtain ⟨rfl, _⟩ := hp
        rw [← hq] at HE
        clear hq
        go_wp2_with fail
        go_ret
        exact HE.out
end Go.Proofs.YtkjndabbkfbkaaaGreatDoor
