/- witanlaw06.known; words as they lie. -/
import Derived.Test.YtlodonnnbjcejaaGreatDoorLx8
namespace Go.Proofs.YtlodonnnbjcejaaGreatDoor
open Go Go.RowKit Go.Lib Go.Sort Go.Shelf

theorem tflat_get : ∀ (l : List Tkn) (i : Nat) (h : i < l.length), (tflat l)[i * 7]? = some (.int .u8 l[i].w.k) ∧ (tflat l)[i * 7 + 1]? = some (.string ⟨l[i].w.t.toArray⟩) ∧ (tflat l)[i * 7 + 2]? = some (.int .u8 l[i].w.v.1) ∧
    (tflat l)[i * 7 + 3]? = some (.int .i64 l[i].w.v.2.1) ∧ (tflat l)[i * 7 + 4]? = some (.string ⟨l[i].w.v.2.2.toArray⟩) ∧ (tflat l)[i * 7 + 5]? = some (.int .i64 l[i].line) ∧ (tflat l)[i * 7 + 6]? = some (.int .i64 l[i].col)
  | [], i, h => by simp at h
  | t :: l, 0, _ => ⟨rfl, rfl, rfl, rfl, rfl, rfl, rfl⟩
  | t :: l, i + 1, h => by
    have := tflat_get l i (by simpa using h)
    rw [show (i + 1) * 7 = i * 7 + 1 + 1 + 1 + 1 + 1 + 1 + 1 by omega]
    exact this
/-- A slice that reads as words. -/
def TkIs (w : World) (v : Value) (ts : List Tkn) : Prop :=
  (v = .slice none 0 0 ∧ ts = []) ∨ ∃ b c, v = .slice (some ⟨b, 0, none⟩) ts.length c ∧ ts.length ≤ c ∧ b < w.heap.size ∧ ∀ j u, (tflat ts)[j]? = some u → w.cell? ⟨b, j, none⟩ = some u
theorem TkIs.below {w w' : World} {v : Value} {ts : List Tkn} (h : TkIs w v ts) (hb : Below w.heap.size w w') : TkIs w' v ts := by
  rcases h with h | ⟨b, c, h1, h4, h2, h3⟩
  · exact .inl h
  · exact .inr ⟨b, c, h1, h4, Nat.lt_of_lt_of_le h2 hb.size, fun j u hj => (World.cell?_of_block (w := w) (w' := w') (a := ⟨b, j, none⟩) (hb.block b h2)).trans (h3 j u hj)⟩
theorem TkIs.of_row {w : World} {B : Nat} {v : Value} {ts : List Tkn} (h : w.ownsRow B 37 7 v ts.length (tflat ts)) : TkIs w v ts := by
  rcases h.2 with ⟨e, h0⟩ | ⟨g, cap, cur, rfl, _, hg, hc, _⟩
  · exact .inl ⟨e, List.eq_nil_of_length_eq_zero h0⟩
  · refine .inr ⟨g, cap, rfl, hc, lt_of_heap hg, fun j u hj => ?_⟩
    have := h.cells (g := g) rfl j u hj
    rwa [Addr.add_lit, Nat.zero_add] at this
theorem TkIs.form {w : World} {v : Value} {ts : List Tkn} (h : TkIs w v ts) : ∃ a c, v = .slice a ts.length c := by
  rcases h with ⟨rfl, rfl⟩ | ⟨b, c, rfl, _⟩
  · exact ⟨none, 0, rfl⟩
  · exact ⟨_, _, rfl⟩
theorem TkIs.at {w : World} {v : Value} {ts : List Tkn} (h : TkIs w v ts) {k : Nat} (hk : k < ts.length) : ∃ b c, v = .slice (some ⟨b, 0, none⟩) ts.length c ∧ b < w.heap.size ∧
    w.cell? ⟨b, k * 7, none⟩ = some (.int .u8 ts[k].w.k) ∧ w.cell? ⟨b, k * 7 + 1, none⟩ = some (.string ⟨ts[k].w.t.toArray⟩) ∧ w.cell? ⟨b, k * 7 + 2, none⟩ = some (.int .u8 ts[k].w.v.1) ∧ w.cell? ⟨b, k * 7 + 3, none⟩ = some (.int .i64 ts[k].w.v.2.1) ∧
    w.cell? ⟨b, k * 7 + 4, none⟩ = some (.string ⟨ts[k].w.v.2.2.toArray⟩) ∧ w.cell? ⟨b, k * 7 + 5, none⟩ = some (.int .i64 ts[k].line) ∧ w.cell? ⟨b, k * 7 + 6, none⟩ = some (.int .i64 ts[k].col) := by
  rcases h with ⟨_, rfl⟩ | ⟨b, c, rfl, _, h2, h3⟩
  · simp at hk
  · obtain ⟨g0, g1, g2, g3, g4, g5, g6⟩ := tflat_get ts k hk
    exact ⟨b, c, rfl, h2, h3 _ _ g0, h3 _ _ g1, h3 _ _ g2, h3 _ _ g3, h3 _ _ g4, h3 _ _ g5, h3 _ _ g6⟩
/-- The k-th word of a row. -/
def TokRow (w : World) (b k : Nat) (W : Wd) (line col : Int) : Prop :=
    w.cell? ⟨b, k * 7, none⟩ = some (.int .u8 W.k) ∧ w.cell? ⟨b, k * 7 + 1, none⟩ = some (.string ⟨W.t.toArray⟩) ∧ w.cell? ⟨b, k * 7 + 2, none⟩ = some (.int .u8 W.v.1) ∧ w.cell? ⟨b, k * 7 + 3, none⟩ = some (.int .i64 W.v.2.1) ∧
    w.cell? ⟨b, k * 7 + 4, none⟩ = some (.string ⟨W.v.2.2.toArray⟩) ∧ w.cell? ⟨b, k * 7 + 5, none⟩ = some (.int .i64 line) ∧ w.cell? ⟨b, k * 7 + 6, none⟩ = some (.int .i64 col)
theorem lex_ok {s : ByteArray} (w : World) (hs : s.size ≤ 65536) (hR : Rd w) {ts : List Tkn} (h : lexL (dl s) = .ok ts) :
    Calls Tryz.prog 13 #[.string s] w fun e w' => ∃ v, e = .returned (.tuple #[v, .agg #[.int .i64 0, .int .i64 0], .int .i64 0]) ∧ w'.ownsRow w.heap.size 37 7 v ts.length (tflat ts) ∧ Below w.heap.size w w' := by
  refine (lex_any s w hs hR).mono ?_
  rintro e w' ⟨hb, he⟩
  rw [h] at he
  obtain ⟨v, h1, h2⟩ := he
  exact ⟨v, h1, h2, hb⟩
theorem lex_er {s : ByteArray} (w : World) (hs : s.size ≤ 65536) (hR : Rd w) {a b q : Int} (h : lexL (dl s) = .error (a, b, q)) :
    Calls Tryz.prog 13 #[.string s] w fun e w' => e = .returned (.tuple #[.slice none 0 0, .agg #[.int .i64 a, .int .i64 b], .int .i64 q]) ∧ Below w.heap.size w w' := by
  refine (lex_any s w hs hR).mono ?_
  rintro e w' ⟨hb, he⟩
  rw [h] at he
  exact ⟨he, hb⟩
theorem name_yes (w : World) : Calls Tryz.prog 28 #[.string ⟨#[112, 49]⟩] w fun e w' => e = .returned (.bool true) ∧ w = w' := by
  have h1 : Calls Tryz.prog 52 #[.int .u8 112] w fun e w' => e = .returned (.bool true) ∧ w = w' := letter_any 112 w
  have h2 : Calls Tryz.prog 53 #[.string ⟨#[112, 49]⟩, .int .i64 0, .func (.func 54) #[] #[]] w fun e w' => e = .returned (.int .i64 2) ∧ w = w' :=
    while_pure ⟨#[112, 49]⟩ 54 namC (fun args w => by kernel_rfl) (by decide) 0 w (by decide) fun c V => named_any c V
  have H1 := hide h1
  have H2 := hide h2
  clear h1 h2
  go_enter Tryz.func28, Tryz.ntmps28
  go_wp2_with fail
  refine H1.out.mono ?_
  rintro e V ⟨rfl, rfl⟩
  go_wp2_with fail
  (with_reducible refine H2.out.mono ?_)
  rintro e V ⟨rfl, rfl⟩
  go_wp2
  go_ret
  exact ⟨rfl, rfl⟩
theorem name_no (w : World) : Calls Tryz.prog 28 #[.string ⟨#[49, 112]⟩] w fun e w' => e = .returned (.bool false) ∧ w = w' := by
  have h1 : Calls Tryz.prog 52 #[.int .u8 49] w fun e w' => e = .returned (.bool false) ∧ w = w' := letter_any 49 w
  have H1 := hide h1
  clear h1
  go_enter Tryz.func28, Tryz.ntmps28
  go_wp2_with fail
  refine H1.out.mono ?_
  rintro e V ⟨rfl, rfl⟩
  go_wp2
  go_ret
  exact ⟨rfl, rfl⟩
def src1 : ByteArray := ⟨#[112, 49, 40, 97, 103, 101, 58, 62, 61, 49, 56, 41]⟩
def src2 : ByteArray := ⟨#[91, 49, 46, 46, 50, 93, 32, 59, 32, 102, 114, 111, 109, 10, 63, 120, 32, 63]⟩
def src3 : ByteArray := ⟨#[97, 10, 32, 32, 33]⟩
def toks1 : List Tkn := [⟨⟨1, [112, 49], v0⟩, 1, 1⟩, ⟨⟨7, [40], v0⟩, 1, 3⟩, ⟨⟨1, [97, 103, 101], v0⟩, 1, 4⟩, ⟨⟨7, [58], v0⟩, 1, 7⟩, ⟨⟨7, [62, 61], v0⟩, 1, 8⟩, ⟨⟨4, [49, 56], (1, 18, [])⟩, 1, 10⟩, ⟨⟨7, [41], v0⟩, 1, 12⟩]
def toks2 : List Tkn := [⟨⟨7, [91], v0⟩, 1, 1⟩, ⟨⟨4, [49], (1, 1, [])⟩, 1, 2⟩, ⟨⟨7, [46, 46], v0⟩, 1, 3⟩, ⟨⟨4, [50], (1, 2, [])⟩, 1, 5⟩, ⟨⟨7, [93], v0⟩, 1, 6⟩, ⟨⟨2, [120], v0⟩, 2, 1⟩, ⟨⟨3, [], v0⟩, 2, 4⟩]
theorem lex1 : lexL (dl src1) = .ok toks1 := by kernel_rfl
theorem lex2 : lexL (dl src2) = .ok toks2 := by kernel_rfl
theorem lex3 : lexL (dl src3) = .error (2, 3, 4) := by kernel_rfl
set_option maxRecDepth 100000 in
set_option maxHeartbeats 8000000 in
theorem known06 (w : World) (hR : Rd w) : Calls Tryz.prog 12 #[] w fun e w' => e = .returned (.bool true) ∧ Below w.heap.size w w' := by
  have L1 := hide (lex_ok (s := src1) w (by decide) hR lex1)
  have HR := hide hR
  clear hR
  unfold src1 at L1
  go_enter Tryz.func12, Tryz.ntmps12
  go_wp2_with fail
  (with_reducible refine L1.out.mono ?_)
  rintro e V1 ⟨v1, rfl, hrow1, hb1⟩
  have hk1 := TkIs.of_row hrow1
  obtain ⟨a1, q1, rfl⟩ := hk1.form
  obtain ⟨W1, hW1⟩ : ∃ W1, V1.alloc (.cells #[.int .i64 0, .int .i64 0] 32) = W1 := ⟨_, rfl⟩
  have hB1 : Below w.heap.size w W1 := by rw [← hW1]; exact hb1.alloc hb1.size _
  have hT1 : TkIs W1 (.slice a1 toks1.length q1) toks1 := by rw [← hW1]; exact hk1.below ((Below.refl _ V1).alloc (Nat.le_refl _) _)
  have L2 := hide (lex_ok (s := src2) W1 (by decide) (HR.out.below hB1) lex2)
  unfold src2 at L2
  have HW1 := hide hW1
  have HB1 := hide hB1
  have HT1 := hide hT1
  clear hW1 hB1 hT1 hk1 hrow1 hb1 L1
  go_upto_region 2 with fail
  rw [HW1.out]
  go_wp2_with fail
  (with_reducible refine L2.out.mono ?_)
  rintro e V2 ⟨v2, rfl, hrow2, hb2⟩
  have hk2 := TkIs.of_row hrow2
  obtain ⟨a2, q2, rfl⟩ := hk2.form
  obtain ⟨W2, hW2⟩ : ∃ W2, V2.alloc (.cells #[.int .i64 0, .int .i64 0] 32) = W2 := ⟨_, rfl⟩
  have hB2 : Below w.heap.size w W2 := by rw [← hW2]; exact (HB1.out.trans (hb2.mono HB1.out.size)).alloc (Nat.le_trans HB1.out.size hb2.size) _
  have hT2 : TkIs W2 (.slice a2 toks2.length q2) toks2 := by rw [← hW2]; exact hk2.below ((Below.refl _ V2).alloc (Nat.le_refl _) _)
  have hT12 : TkIs W2 (.slice a1 toks1.length q1) toks1 := by rw [← hW2]; exact (HT1.out.below hb2).below ((Below.refl _ V2).alloc (Nat.le_refl _) _)
  have L3 := hide (lex_er (s := src3) W2 (by decide) (HR.out.below hB2) lex3)
  unfold src3 at L3
  have HW2 := hide hW2
  have HB2 := hide hB2
  have HT2 := hide hT2
  have HT12 := hide hT12
  clear hW2 hB2 hT2 hT12 hk2 hrow2 hb2 L2 HT1 HB1
  go_upto_region 3 with fail
  rw [HW2.out]
  go_wp2_with fail
  (with_reducible refine L3.out.mono ?_)
  rintro e V3 ⟨rfl, hb3⟩
  have hT1 := HT12.out.below hb3
  have hT2 := HT2.out.below hb3
  obtain ⟨g1, c1, e1, z1, _, t41, _, _, _, _, _⟩ := hT1.at (k := 4) (by decide)
  obtain ⟨g1', c1', e1', _, _, _, _, t53, _, _, _⟩ := hT1.at (k := 5) (by decide)
  obtain ⟨g2, c2, e2, z2, _, u21, _, _, _, _, _⟩ := hT2.at (k := 2) (by decide)
  obtain ⟨g2', c2', e2', _, u50, _, _, _, _, u55, u56⟩ := hT2.at (k := 5) (by decide)
  obtain ⟨g2'', c2'', e2'', _, u60, _, _, _, _, _, _⟩ := hT2.at (k := 6) (by decide)
  have HB3 : Hid (Below w.heap.size w (V3.alloc (.cells #[.int .i64 2, .int .i64 3] 32))) := hide ((HB2.out.trans (hb3.mono HB2.out.size)).alloc (Nat.le_trans HB2.out.size hb3.size) _)
  rw [e1] at e1'
  rw [e2] at e2' e2''
  cases e1
  cases e2
  cases e1'
  cases e2'
  cases e2''
  have t41' : V3.cell? ⟨g1, 29, none⟩ = some (.string ⟨#[62, 61]⟩) := t41
  have t53' : V3.cell? ⟨g1, 38, none⟩ = some (.int .i64 18) := t53
  have u21' : V3.cell? ⟨g2, 15, none⟩ = some (.string ⟨#[46, 46]⟩) := u21
  have u50' : V3.cell? ⟨g2, 35, none⟩ = some (.int .u8 2) := u50
  have u55' : V3.cell? ⟨g2, 40, none⟩ = some (.int .i64 2) := u55
  have u56' : V3.cell? ⟨g2, 41, none⟩ = some (.int .i64 1) := u56
  have u60' : V3.cell? ⟨g2, 42, none⟩ = some (.int .u8 3) := u60
  have n1 := hide (name_yes (V3.alloc (.cells #[.int .i64 2, .int .i64 3] 32)))
  have n2 := hide (name_no (V3.alloc (.cells #[.int .i64 2, .int .i64 3] 32)))
  have l1 : toks1.length = 7 := rfl
  have l2 : toks2.length = 7 := rfl
  rw [l1, l2]
  clear t41 t53 u21 u50 u55 u56 u60 hT1 hT2 hb3 L3 HT12 HT2 HB2 l1 l2
  go_wp2_with fail
  (with_reducible refine n1.out.mono ?_)
  rintro e V ⟨rfl, rfl⟩
  go_wp2_with fail
  (with_reducible refine n2.out.mono ?_)
  rintro e V ⟨rfl, rfl⟩
  go_wp2
  go_ret
  exact ⟨rfl, HB3.out⟩
end Go.Proofs.YtlodonnnbjcejaaGreatDoor
