/- The contracts of an agenda's Next, Copy, Change. -/
import Derived.Test.YtelgajgghgknnaaAg4
namespace Go.Proofs.Ytelgajgghgknnaa
open Go Go.RowKit Go.MapKept Go.Sort

/-- What Next tells, of the list's activations. -/
def NextIs (B : Nat) (w : World) (cs : List Co) (y : Value) (q : Bool) : Prop :=
  match cs with
  | [] => q = false ∧ y = .agg #[.int .i64 0, .slice none 0 0, .int .i64 0]
  | c :: _ => q = true ∧ ∃ a : Ac, y = a.val ∧ a.co = c ∧ a.tup.length ≤ 1000000 ∧ w.ownsRow B 3 1 a.x a.tup.length (a.tup.map (.int .i64))

set_option maxRecDepth 100000 in
set_option maxHeartbeats 1000000 in
theorem next_any (B b : Nat) (s : Int) (v : Value) (l : List En) (w : World) (h : AgIs B w b s v l) :
    Calls Try.prog 18 #[.pointer (some ⟨b, 0, none⟩)] w fun r w' => ∃ y q, r = .returned (.tuple #[y, .bool q]) ∧ NextIs w.heap.size w' (sortC s ((l.filter fun e => !e.fired).map fun e => e.ac.co)) y q ∧ Below w.heap.size w w' := by
  have hb1 : Below w.heap.size w (w.alloc (Obj.cells #[.int .i64 0, .slice none 0 0, .int .i64 0] 27)) := ((Only.refl [] w).alloc _).below
  have hbox := heap_alloc0 w (Obj.cells #[.int .i64 0, .slice none 0 0, .int .i64 0] 27)
  have Hl := hide (list_any B b s v l _ (h.below hb1))
  have Hbox := hide hbox
  have HB := hide hb1
  clear h hbox hb1
  go_enter Try.func18, Try.ntmps18
  go_wp2_with fail
  refine Hl.out.mono ?_
  rintro r V ⟨v', l', rfl, hres, hc, hb⟩
  have hblk := (hb.block w.heap.size (by simp)).trans Hbox.out
  obtain ⟨c0, c1, c2, f0, f1, f2⟩ := cells3a hblk
  have hF := HB.out.trans (hb.mono (by simp))
  have Hc := hide hc
  have HF := hide hF
  have hltV : w.heap.size < V.heap.size := by have := hb.size; simp at this; omega
  cases l' with
  | nil =>
    obtain ⟨xa, xc, rfl⟩ := hres.acts.form
    clear hc hF hb hblk hres Hl Hbox
    go_wp2
    refine bodyPost_ret (v := .tuple #[.agg #[.int .i64 0, .slice none 0 0, .int .i64 0], .bool false]) (by simp [results, Try.results18, go_sem, *]) rfl ?_
    refine ⟨_, _, rfl, ?_, ?_⟩
    · rw [← Hc.out]
      exact ⟨rfl, rfl⟩
    · exact ((HF.out.setCell (by simp) _).setCell (by simp) _).setCell (by simp) _
  | cons a r =>
    obtain ⟨g, off, cap, xa, xc, rfl, hx, d0, d1, d2⟩ := hres.acts.at (k := 0) (by simp)
    simp only [List.getElem_cons_zero, Nat.zero_mul, Nat.add_zero] at hx d0 d1 d2
    have hown := hres.tups a (.head _)
    have hlen := (hres.acts.tups a (.head _)).1
    have hfr := hres.fresh _ _ _ rfl (by simp)
    simp only at hfr
    have hlg := lt_of_cell d0
    simp only at hlg
    have hgw : g ≠ w.heap.size := fun e => by simp at hfr; omega
    have hm : (r.length : Int) + 1 ≤ 1000000 := by have := hres.acts.len; simp at this; omega
    obtain ⟨ru, tu, sl, ax⟩ := a
    simp only at hx d0 d1 d2 hown hlen
    subst hx
    have Hown := hide hown
    clear hc hF hb hblk hres Hl Hbox hown hfr
    rw [show (List.length (⟨ru, tu, sl, .slice xa tu.length xc⟩ :: r : List Ac)) = r.length + 1 from rfl]
    have hnz : (((r.length : Int) + 1) == 0) = false := by rw [beq_eq_false_iff_ne]; omega
    go_wp2
    refine bodyPost_ret (v := .tuple #[.agg #[.int .i64 ru, .slice xa tu.length xc, .int .i64 sl], .bool true]) (by simp [results, Try.results18, go_sem, *]) rfl ?_
    refine ⟨_, _, rfl, ?_, ?_⟩
    · rw [← Hc.out]
      refine ⟨rfl, ⟨ru, tu, sl, .slice xa tu.length xc⟩, rfl, rfl, hlen, ?_⟩
      refine owns_base (owns_only (S := [w.heap.size]) Hown.out ?_ (fun k hk => by have := (Hown.out.lt k hk).1; simp at this ⊢; omega)) (B' := w.heap.size) (by simp)
      exact (((Only.refl [w.heap.size] V).setCell (.inl (by simp)) _).setCell (.inl (by simp)) _).setCell (.inl (by simp)) _
    · exact ((HF.out.setCell (by simp) _).setCell (by simp) _).setCell (by simp) _

set_option maxRecDepth 100000 in
set_option maxHeartbeats 1000000 in
theorem clone_en (B : Nat) (v : Value) (l : List En) (w : World) (h : EnsIs B w v l) (hB : B ≤ w.heap.size) :
    Calls Try.prog 42 #[v] w fun r w' => ∃ v', r = .returned v' ∧ EnsIs B w' v' l ∧ Below w.heap.size w w' ∧ ∀ k, v'.ownBlock = some k → w.heap.size ≤ k := by
  have hlen := h.len
  obtain ⟨i0, hi0, hz0, hz1, hz2⟩ := einfo_parts
  rcases h.own.2 with ⟨rfl, h0⟩ | ⟨g, cap, cur, rfl, _, _, hc, hcm, _⟩
  · have H := hide h
    have hl0 : l = [] := List.eq_nil_of_length_eq_zero h0
    subst hl0
    have hnil : ∀ w : World, (binOp .eql 53 (.slice none 0 0) (.slice none 0 0)).run Try.prog w = .ok (.bool true) w := fun w => Lib.run_eql_slice_nil w _ _ none _ _ _ _ Try.underlying53
    clear h hi0 hz0 hz1 hz2 h0 hlen
    go_enter Try.func42, Try.ntmps42
    go_wp2
    go_ret
    exact ⟨_, rfl, H.out, Below.refl _ _, fun k hk => by cases hk⟩
  · have honel : ∀ u ∈ eflat l, u.oneCell' = true := eflat_one l fun e he => by obtain ⟨a, c, q⟩ := (h.nis he).form; exact ⟨_, _, _, q⟩
    have hb1 : Below w.heap.size w (w.alloc (.cells #[] 61)) := ((Only.refl [] w).alloc _).below
    have hown0 : (w.alloc (.cells #[] 61)).ownsRow w.heap.size 61 4 (.slice (some ⟨w.heap.size, 0, none⟩) 0 0) 0 [] := World.ownsRow_made w #[] 0 (Nat.le_refl _) (by decide) rfl
    have hnews : ∀ j u, (eflat l)[j]? = some u → (w.alloc (.cells #[] 61)).cell? ((⟨g, 0, none⟩ : Addr).add j) = some u := fun j u hu => (h.below hb1).own.cells (g := g) rfl j u hu
    have H := hide h
    have Hi0 := hide hi0
    have Hz0 := hide hz0
    have Hz1 := hide hz1
    have Hz2 := hide hz2
    have Honel := hide honel
    have Hnews := hide hnews
    have Hown0 := hide hown0
    have HB1 := hide hb1
    have hfl := hide (eflat_length l)
    unfold maxLen at hcm
    have hnil : ∀ w : World, (binOp .eql 53 (.slice (some ⟨g, 0, none⟩) l.length cap) (.slice none 0 0)).run Try.prog w = .ok (.bool false) w := fun w => Lib.run_eql_slice_nil w _ _ (some ⟨g, 0, none⟩) _ _ _ _ Try.underlying53
    clear h hi0 hz0 hz1 hz2 honel hnews hown0 hb1
    go_enter Try.func42, Try.ntmps42
    go_wp2_with (at_builtin; refine wpList_append_own _ rfl (.tmp 5) (.tmp 6) _ rfl w.heap.size 61 i0 (.agg #[.int .i64 0, .slice none 0 0, .int .i64 0, .bool false]) 4 48 Try.underlying53 Hi0.out Hz0.out Hz1.out Hz2.out rfl (by decide) (.slice (some ⟨w.heap.size, 0, none⟩) 0 0) 0 [] rfl Hown0.out ⟨g, 0, none⟩ l.length cap (eflat l) rfl hfl.out Hnews.out Honel.out (by unfold maxLen; omega) (by omega) (by simp) ?_; intro v1 w1 hown1 hgrow1 _; simp only [Nat.zero_add, List.nil_append] at hown1; obtain ⟨na, nc, rfl⟩ := row_form hown1; have Hown1 := hide hown1; have HB2 := hide (HB1.out.grown hgrow1 (by simp) (fun k e => by simp [Value.ownBlock] at e; omega)); clear hown1 hgrow1)
    go_wp2
    go_ret
    exact ⟨_, rfl, ⟨H.out.len, owns_base Hown1.out hB, fun e he => ⟨(H.out.tups e he).1, owns_below (H.out.tups e he).2 HB2.out⟩⟩, HB2.out, fun k hk => (Hown1.out.lt k hk).1⟩

set_option maxRecDepth 100000 in
set_option maxHeartbeats 1000000 in
theorem copy_any (B b : Nat) (s : Int) (v : Value) (l : List En) (w : World) (h : AgIs B w b s v l) (hB : B ≤ w.heap.size) :
    Calls Try.prog 26 #[.pointer (some ⟨b, 0, none⟩)] w fun r w' => ∃ c v', r = .returned (.pointer (some ⟨c, 0, none⟩)) ∧ AgIs B w' c s v' l ∧ Below w.heap.size w w' ∧ w.heap.size ≤ c ∧ ∀ k, v'.ownBlock = some k → w.heap.size ≤ k := by
  have hlt := lt_of_heap h.blk
  obtain ⟨d0, d1, _, _⟩ := cells2e h.blk
  have oD : Below w.heap.size w w.drew := (Only.drew (Only.refl [] w)).below
  have Hc := hide (clone_en B v l w.drew (h.ens.below oD) hB)
  obtain ⟨va, vc, rfl, _⟩ := h.ens.form
  have Hkeep : Hid (∀ V, Below w.drew.heap.size w.drew V → V.cell? ⟨b, 0, none⟩ = some (.int .u8 s) ∧ V.cell? ⟨b, 1, none⟩ = some (.slice va l.length vc)) := fun V hV =>
    ⟨((below_undrew hV).cell (p := ⟨b, 0, none⟩) hlt).trans d0, ((below_undrew hV).cell (p := ⟨b, 1, none⟩) hlt).trans d1⟩
  clear h oD
  go_enter Try.func26, Try.ntmps26
  go_wp2_with fail
  go_region_held3 (fun V => V.cell? ⟨b, 0, none⟩ = some (.int .u8 s) ∧ V.cell? ⟨b, 1, none⟩ = some (.slice va l.length vc)) (go_keep)
    ((go_at_call 42; have hqq := Hc.out; with_reducible refine Calls.mono hqq ?_; clear hqq; rintro r V ⟨v', rfl, h1, h2, h3⟩; obtain ⟨va', vc', rfl, _⟩ := h1.form; obtain ⟨y0, y1⟩ := Hkeep.out V h2; have H1 := hide h1; have H2 := hide (below_undrew h2); have H3 := hide h3; clear h1 h2 h3))
  have hbox := heap_alloc0 V (Obj.cells #[.int .u8 s, .slice va' l.length vc'] 57)
  have hbb : Below V.heap.size V (V.alloc (Obj.cells #[.int .u8 s, .slice va' l.length vc'] 57)) := ((Only.refl [] V).alloc _).below
  have hz := H2.out.size
  have Hfin : Hid (AgIs B (V.alloc (Obj.cells #[.int .u8 s, .slice va' l.length vc'] 57)) V.heap.size s (.slice va' l.length vc') l ∧ Below w.heap.size w (V.alloc (Obj.cells #[.int .u8 s, .slice va' l.length vc'] 57))) :=
    hide ⟨⟨hbox, by omega, H1.out.below hbb⟩, H2.out.trans (hbb.mono hz)⟩
  clear hbox hbb y0 y1 d0 d1
  go_wp2
  go_ret
  exact ⟨_, _, rfl, Hfin.out.1, Hfin.out.2, hz, H3.out⟩
end Go.Proofs.Ytelgajgghgknnaa
