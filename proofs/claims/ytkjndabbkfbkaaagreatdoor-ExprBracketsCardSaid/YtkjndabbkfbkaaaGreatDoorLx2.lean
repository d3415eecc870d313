/- lexer: marked, number, text, sign. -/
import Derived.Test.YtkjndabbkfbkaaaGreatDoorLxR
import Derived.Test.YtkjndabbkfbkaaaGreatDoorVt6
namespace Go.Proofs.YtkjndabbkfbkaaaGreatDoor
open Go Go.RowKit Go.Lib Go.Sort Go.Shelf

/-- A word as a value, at a place. -/
def tokV (w : Wd) (line col : Int) : Value := .agg #[.int .u8 w.k, .string ⟨w.t.toArray⟩, .int .u8 w.v.1, .int .i64 w.v.2.1, .string ⟨w.v.2.2.toArray⟩, .int .i64 line, .int .i64 col]
/-- What is handed back of a word. -/
def WPost (w0 : World) (r : Except Int (Wd × Nat)) (e : Ending) (w' : World) : Prop :=
  Below w0.heap.size w0 w' ∧ match r with
    | .ok p => e = .returned (.tuple #[tokV p.1 0 0, .int .i64 (p.2 : Nat), .int .i64 0])
    | .error q => ∃ wd n, e = .returned (.tuple #[tokV wd 0 0, .int .i64 n, .int .i64 q])
/-- An empty word's cells. -/
def tok0 : Array Value := #[.int .u8 0, .string ⟨#[]⟩, .int .u8 0, .int .i64 0, .string ⟨#[]⟩, .int .i64 0, .int .i64 0]
/-- Cells of one's own: at block b, of a word. -/
structure TokAt (w : World) (b : Nat) (k : Int) (t : ByteArray) (vk vn : Int) (vs : ByteArray) (line col : Int) : Prop where
  c0 : w.cell? ⟨b, 0, none⟩ = some (.int .u8 k)
  c1 : w.cell? ⟨b, 1, none⟩ = some (.string t)
  c2 : w.cell? ⟨b, 2, none⟩ = some (.int .u8 vk)
  c3 : w.cell? ⟨b, 3, none⟩ = some (.int .i64 vn)
  c4 : w.cell? ⟨b, 4, none⟩ = some (.string vs)
  c5 : w.cell? ⟨b, 5, none⟩ = some (.int .i64 line)
  c6 : w.cell? ⟨b, 6, none⟩ = some (.int .i64 col)
  fz : ∀ i, w.frozen? ⟨b, i, none⟩ = false
theorem TokAt.new (w : World) : TokAt (w.alloc (.cells tok0 62)) w.heap.size 0 ⟨#[]⟩ 0 0 ⟨#[]⟩ 0 0 := by
  have h := (MapKept.heap_alloc w (.cells tok0 62)).1
  constructor <;> first | (simp only [World.cell?, h]; rfl) | (intro i; simp only [World.frozen?, h]; simp)
theorem TokAt.newc (w : World) (k : Int) (t : ByteArray) (vk vn : Int) (vs : ByteArray) (line col : Int) : TokAt (w.alloc (.cells #[.int .u8 k, .string t, .int .u8 vk, .int .i64 vn, .string vs, .int .i64 line, .int .i64 col] 62)) w.heap.size k t vk vn vs line col := by
  have h := (MapKept.heap_alloc w (.cells #[.int .u8 k, .string t, .int .u8 vk, .int .i64 vn, .string vs, .int .i64 line, .int .i64 col] 62)).1
  constructor <;> first | (simp only [World.cell?, h]; rfl) | (intro i; simp only [World.frozen?, h]; simp)
theorem TokAt.below {w w' : World} {b : Nat} {k : Int} {t : ByteArray} {vk vn : Int} {vs : ByteArray} {line col : Int} (h : TokAt w b k t vk vn vs line col) (hb : Below w.heap.size w w') : TokAt w' b k t vk vn vs line col := by
  have hl := lt_of_cell h.c0
  simp only at hl
  have e := hb.block b hl
  have ec : ∀ i, w'.cell? ⟨b, i, none⟩ = w.cell? ⟨b, i, none⟩ := fun i => World.cell?_of_block (w := w) e
  have ef : ∀ i, w'.frozen? ⟨b, i, none⟩ = w.frozen? ⟨b, i, none⟩ := fun i => World.frozen?_of_block (w := w) e
  constructor <;> first | (rw [ec]; first | exact h.c0 | exact h.c1 | exact h.c2 | exact h.c3 | exact h.c4 | exact h.c5 | exact h.c6) | (intro i; rw [ef]; exact h.fz i)
theorem TokAt.isSome {w : World} {b : Nat} {k : Int} {t : ByteArray} {vk vn : Int} {vs : ByteArray} {line col : Int} (h : TokAt w b k t vk vn vs line col) : ∀ i, i < 7 → (w.cell? ⟨b, i, none⟩).isSome = true := fun i hi => by
  match i, hi with
  | 0, _ => rw [h.c0]; rfl
  | 1, _ => rw [h.c1]; rfl
  | 2, _ => rw [h.c2]; rfl
  | 3, _ => rw [h.c3]; rfl
  | 4, _ => rw [h.c4]; rfl
  | 5, _ => rw [h.c5]; rfl
  | 6, _ => rw [h.c6]; rfl
/-- A whole word is stored. -/
def set7 (w : World) (b : Nat) (k : Int) (t : ByteArray) (vk vn : Int) (vs : ByteArray) (line col : Int) : World :=
  ((((((w.setCell ⟨b, 0, none⟩ (.int .u8 k)).setCell ⟨b, 1, none⟩ (.string t)).setCell ⟨b, 2, none⟩ (.int .u8 vk)).setCell ⟨b, 3, none⟩ (.int .i64 vn)).setCell ⟨b, 4, none⟩ (.string vs)).setCell ⟨b, 5, none⟩ (.int .i64 line)).setCell ⟨b, 6, none⟩ (.int .i64 col)
theorem isSome_set {w : World} {b i : Nat} (j : Nat) (v : Value) (h : (w.cell? ⟨b, i, none⟩).isSome = true) : ((w.setCell ⟨b, j, none⟩ v).cell? ⟨b, i, none⟩).isSome = true := by
  by_cases e : j = i
  · subst e
    rw [World.cell?_setCell_same' _ _ _ h]
    rfl
  · have q : (⟨b, j, none⟩ : Addr) ≠ ⟨b, i, none⟩ := fun z => by injection z with _ z; exact e z
    rw [World.cell?_setCell_other (h := q)]
    exact h
theorem cell_far {w : World} {b i : Nat} (j : Nat) (v u : Value) (hn : j ≠ i) (h : w.cell? ⟨b, i, none⟩ = some u) : (w.setCell ⟨b, j, none⟩ v).cell? ⟨b, i, none⟩ = some u := by
  have q : (⟨b, j, none⟩ : Addr) ≠ ⟨b, i, none⟩ := fun z => by injection z with _ z; exact hn z
  rw [World.cell?_setCell_other (h := q)]
  exact h
theorem TokAt.set7 {w : World} {b : Nat} {k : Int} {t : ByteArray} {vk vn : Int} {vs : ByteArray} {line col : Int} (h : TokAt w b k t vk vn vs line col) (k' : Int) (t' : ByteArray) (vk' vn' : Int) (vs' : ByteArray) (line' col' : Int) :
    TokAt (set7 w b k' t' vk' vn' vs' line' col') b k' t' vk' vn' vs' line' col' := by
  have H := h.isSome
  have w1 := fun i hi => isSome_set (i := i) 0 (.int .u8 k') (H i hi)
  have w2 := fun i hi => isSome_set (i := i) 1 (.string t') (w1 i hi)
  have w3 := fun i hi => isSome_set (i := i) 2 (.int .u8 vk') (w2 i hi)
  have w4 := fun i hi => isSome_set (i := i) 3 (.int .i64 vn') (w3 i hi)
  have w5 := fun i hi => isSome_set (i := i) 4 (.string vs') (w4 i hi)
  have w6 := fun i hi => isSome_set (i := i) 5 (.int .i64 line') (w5 i hi)
  refine ⟨?_, ?_, ?_, ?_, ?_, ?_, ?_, fun i => ?_⟩
  · exact cell_far 6 _ _ (by decide) (cell_far 5 _ _ (by decide) (cell_far 4 _ _ (by decide) (cell_far 3 _ _ (by decide) (cell_far 2 _ _ (by decide) (cell_far 1 _ _ (by decide) (World.cell?_setCell_same' _ _ _ (H 0 (by decide))))))))
  · exact cell_far 6 _ _ (by decide) (cell_far 5 _ _ (by decide) (cell_far 4 _ _ (by decide) (cell_far 3 _ _ (by decide) (cell_far 2 _ _ (by decide) (World.cell?_setCell_same' _ _ _ (w1 1 (by decide)))))))
  · exact cell_far 6 _ _ (by decide) (cell_far 5 _ _ (by decide) (cell_far 4 _ _ (by decide) (cell_far 3 _ _ (by decide) (World.cell?_setCell_same' _ _ _ (w2 2 (by decide))))))
  · exact cell_far 6 _ _ (by decide) (cell_far 5 _ _ (by decide) (cell_far 4 _ _ (by decide) (World.cell?_setCell_same' _ _ _ (w3 3 (by decide)))))
  · exact cell_far 6 _ _ (by decide) (cell_far 5 _ _ (by decide) (World.cell?_setCell_same' _ _ _ (w4 4 (by decide))))
  · exact cell_far 6 _ _ (by decide) (World.cell?_setCell_same' _ _ _ (w5 5 (by decide)))
  · exact World.cell?_setCell_same' _ _ _ (w6 6 (by decide))
  · have := h.fz i
    simpa [Proofs.YtkjndabbkfbkaaaGreatDoor.set7] using this
theorem below_set7 {w V : World} {b : Nat} (h : Below w.heap.size w V) (hb : w.heap.size ≤ b) (k' : Int) (t' : ByteArray) (vk' vn' : Int) (vs' : ByteArray) (line' col' : Int) : Below w.heap.size w (set7 V b k' t' vk' vn' vs' line' col') :=
  ((((((h.setCell hb _).setCell hb _).setCell hb _).setCell hb _).setCell hb _).setCell hb _).setCell hb _
theorem set7_size (V : World) (b : Nat) (k' : Int) (t' : ByteArray) (vk' vn' : Int) (vs' : ByteArray) (line' col' : Int) : (set7 V b k' t' vk' vn' vs' line' col').heap.size = V.heap.size := by simp [set7]
theorem tail_below (V : World) (o : Obj) : Below V.heap.size V (V.alloc o).drew := ((Below.refl _ V).alloc (Nat.le_refl _) o).drew

theorem marked_any (s : ByteArray) (w : World) (hs : s.size ≤ 9223372036854775806) :
    Calls Tryz.prog 62 #[.string s] w fun e w' => e = .returned (.tuple #[.string ⟨(if markB (dl s) then (dl s).tail.take (spanL namC (dl s).tail) else []).toArray⟩, .bool (markB (dl s))]) ∧ w = w' := by
  by_cases h2 : s.size < 2
  · have hm : markB (dl s) = false := by
      have hl := dl_size s
      match dl s, hl with
      | [], _ => rfl
      | [_], _ => rfl
      | _ :: _ :: _, hl => simp at hl; omega
    rw [hm]
    have i2 : decide ((s.size : Int) < 2) = true := by simp; omega
    clear hm h2
    go_enter Tryz.func62, Tryz.ntmps62
    go_wp2
    refine bodyPost_ret (v := .tuple #[.string ⟨#[]⟩, .bool false]) (by simp [results, Tryz.results62, go_sem]) rfl ?_
    exact ⟨rfl, rfl⟩
  · have i2 : decide ((s.size : Int) < 2) = false := by simp; omega
    have i1 : (1 : Int) < (s.size : Int) := by omega
    have hl : 1 < s.size := by omega
    have hm : markB (dl s) = lowC s[1] := by
      have h0 := dl_get (s := s) (i := 1) hl
      match dl s, h0 with
      | _ :: c :: _, h0 => injection h0 with h0; rw [← h0]; rfl
    have hc := letter_any s[1] w
    rw [hm]
    rw [← hm] at hc
    cases hb : lowC s[1] with
    | false =>
      rw [hm, hb] at hc
      have Hc := hide hc
      clear hc hm hb h2
      go_enter Tryz.func62, Tryz.ntmps62
      go_wp2_with fail
      (with_reducible refine Hc.out.mono ?_)
      rintro e V ⟨rfl, rfl⟩
      go_wp2
      refine bodyPost_ret (v := .tuple #[.string ⟨#[]⟩, .bool false]) (by simp [results, Tryz.results62, go_sem]) rfl ?_
      exact ⟨rfl, rfl⟩
    | true =>
      rw [hm, hb] at hc
      have hw := while_pure s 64 namC (fun args w => by kernel_rfl) hs 1 w (by omega) fun c V => named_any c V
      have hle := spanL_le namC ((dl s).drop 1)
      rw [List.length_drop, dl_size] at hle
      have ht : (⟨((dl s).tail.take (spanL namC (dl s).tail)).toArray⟩ : ByteArray) = s.extract 1 (1 + spanL namC ((dl s).drop 1)) := dl_inj (by rw [dl_mk, dl_ext, List.drop_one, Nat.add_sub_cancel_left])
      simp only [if_true]
      rw [ht]
      obtain ⟨n, hn⟩ : ∃ n, spanL namC ((dl s).drop 1) = n := ⟨_, rfl⟩
      rw [hn] at hw hle ⊢
      have e1 : ((1 : Nat) : Int) = 1 := rfl
      rw [e1] at hw
      have j1 : (1 : Int) + (n : Int) ≤ (s.size : Int) := by omega
      have Hc := hide hc
      have Hw := hide hw
      clear hc hm hb h2 hw ht hn
      go_enter Tryz.func62, Tryz.ntmps62
      go_wp2_with fail
      (with_reducible refine Hc.out.mono ?_)
      rintro e V ⟨rfl, rfl⟩
      go_wp2_with fail
      (with_reducible refine Hw.out.mono ?_)
      rintro e V ⟨rfl, rfl⟩
      go_wp2
      refine bodyPost_ret (v := .tuple #[.string (s.extract 1 (1 + n)), .bool true]) (by simp [results, Tryz.results62, go_sem]) rfl ?_
      exact ⟨rfl, rfl⟩
end Go.Proofs.YtkjndabbkfbkaaaGreatDoor
