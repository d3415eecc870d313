/- Tokens: Tuple. -/
import Derived.Test.YtmcajoccfbebiaaTk7
namespace Go.Proofs.Ytmcajoccfbebiaa
open Go Go.RowKit Go.MapKept Go.Sort

/-- How far the walk up still goes. -/
def upM (p f : Value) (w : World) : Nat := match f, p with
  | .bool true, .pointer (some a) => match w.cell? a with
    | some (.int _ i) => i.toNat + 1
    | _ => 0
  | _, _ => 0
def Tk.cells (t : Tk) : Array Value := #[.int .i64 t.id, .int .i64 t.parent, .int .i64 t.node, .int .i64 t.fact]
theorem cells4t {w : World} {b : Nat} {x y z u : Value} {t : TypeId} (h : w.heap[b]? = some (.cells #[x, y, z, u] t (0, 0))) :
    w.cell? ⟨b, 0, none⟩ = some x ∧ w.cell? ⟨b, 1, none⟩ = some y ∧ w.cell? ⟨b, 2, none⟩ = some z ∧ w.cell? ⟨b, 3, none⟩ = some u ∧
      w.frozen? ⟨b, 0, none⟩ = false ∧ w.frozen? ⟨b, 1, none⟩ = false ∧ w.frozen? ⟨b, 2, none⟩ = false ∧ w.frozen? ⟨b, 3, none⟩ = false := by
  simp [World.cell?, World.frozen?, h]
theorem set4 {w : World} {b : Nat} {x y z u x' y' z' u' : Value} {t : TypeId} (h : w.heap[b]? = some (.cells #[x, y, z, u] t (0, 0))) :
    ((((w.setCell ⟨b, 0, none⟩ x').setCell ⟨b, 1, none⟩ y').setCell ⟨b, 2, none⟩ z').setCell ⟨b, 3, none⟩ u').heap[b]? = some (.cells #[x', y', z', u'] t (0, 0)) :=
  (setCell_heap (setCell_heap (setCell_heap (setCell_heap h)))).trans (by simp)

/-- What stands on the way up: at the number c, behind the facts F. -/
structure TSt (w wr : World) (T : List Tk) (last n c : Int) (F : List Int) (v : Value) (z : Nat) : Prop where
  bz : wr.heap[z]? = some (.cells ((getT T c).getD noTk).cells 32 (0, 0))
  hz : w.heap.size ≤ z
  row : wr.ownsRow w.heap.size 3 1 v F.length (F.map (.int .i64))
  below : Below w.heap.size w wr
  eq : F ++ chain T (last + 1).toNat c = chain T (last + 1).toNat n

set_option maxRecDepth 100000 in
set_option maxHeartbeats 4000000 in
theorem ttuple_any {w : World} {A : Ar} {T : List Tk} {last : Int} (h : ArIs w A T last) (hT : TreeOk T last) (hl : last < 1000) (n : Int) :
    Calls Try.prog 16 #[.pointer (some ⟨A.a, 0, none⟩), .int .i64 n] w fun e w' => ∃ v, e = .returned v ∧ w'.ownsRow w.heap.size 3 1 v (tupT T last n).length ((tupT T last n).map (.int .i64)) ∧ Below w.heap.size w w' := by
  have H := hide h
  have HT := hide hT
  have Hg := hide (tget_any h n)
  have hl0 := hT.lst
  obtain ⟨i0, hi, hz0, hz1, hz2⟩ := int_parts
  have Hi := hide hi
  have Hz0 := hide hz0
  have Hz1 := hide hz1
  have Hz2 := hide hz2
  have hcl := chain_len T (last + 1).toNat n
  clear h hT hi hz0 hz1 hz2
  go_enter Try.func16, Try.ntmps16
  go_wp2_with fail
  (with_reducible refine Hg.out.mono ?_)
  rintro e V ⟨rfl, hb⟩
  have hbb : Below V.heap.size V (V.alloc (.cells ((getT T n).getD noTk).cells 32)) := ((Only.refl [] V).alloc _).below
  have HS : Hid (TSt w (V.alloc (.cells ((getT T n).getD noTk).cells 32)) T last n n [] (.slice none 0 0) V.heap.size) := hide ⟨heap_alloc0 V _, hb.size, World.ownsRow_nil _ _ _ _, hb.trans (hbb.mono hb.size), rfl⟩
  obtain ⟨t, ht⟩ : ∃ t, (getT T n).getD noTk = t := ⟨_, rfl⟩
  obtain ⟨ok, hok⟩ : ∃ ok, (getT T n).isSome = ok := ⟨_, rfl⟩
  rw [ht] at HS ⊢
  rw [hok]
  have Hok := hide hok
  obtain ⟨t0, t1, t2, t3⟩ := t
  unfold Tk.cells at HS
  unfold Tk.val
  simp only at HS ⊢
  clear hb hbb ht hok Hg
  go_wp2_with fail
  go_loopw [4, 5, 6] (fun v4 v5 v6 wr => ∃ (c : Int) (F : List Int) (la : Option Addr) (lc z : Nat), v4 = .slice la F.length lc ∧ v5 = .pointer (some ⟨z, 0, none⟩) ∧ v6 = .bool (getT T c).isSome ∧ Hid (TSt w wr T last n c F (.slice la F.length lc) z)) (fun _ v5 v6 wr => upM v5 v6 wr)
  case atStart => exact ⟨n, [], none, 0, _, rfl, rfl, by rw [Hok.out], HS.out⟩
  case round =>
    clear HS Hok
    obtain ⟨c, F, la, lc, z, rfl, rfl, rfl, hq⟩ := hrel
    cases hc : getT T c with
    | none =>
      have hch := TreeOk.chain_none c hc (last + 1).toNat
      have heq := hq.out.eq
      rw [hch, List.append_nil] at heq
      have hFl : F.length ≤ 1000 := by rw [heq]; omega
      have Hr := hide (nreverse w.heap.size (.slice la F.length lc) F wr (by omega) hq.out.row)
      have HB := hide hq.out.below
      have Hrow := hide hq.out.row
      have Heq := hide heq
      clear hq heq hch
      simp only [Option.isSome_none]
      go_wp2_with fail
      (with_reducible refine Hr.out.mono ?_)
      rintro e V2 ⟨rfl, hr2, hg2⟩
      have HB2 := hide (HB.out.grown hg2 HB.out.size (fun k e => (Hrow.out.lt k e).1))
      have HR2 : Hid (V2.ownsRow w.heap.size 3 1 (.slice la F.length lc) (tupT T last n).length ((tupT T last n).map (.int .i64))) := hide (by
        unfold tupT
        rw [← Heq.out, List.length_reverse]
        exact hr2)
      clear hr2 hg2 Hr HB Hrow
      go_wp2
      go_ret
      exact ⟨_, rfl, HR2.out, HB2.out⟩
    | some t =>
      have hbz := hq.out.bz
      rw [hc, Option.getD_some] at hbz
      have heq := hq.out.eq
      rw [HT.out.chain_some hc] at heq
      obtain ⟨htT, hte⟩ := getT_some hc
      have htge := HT.out.ge t htT
      have htlt := HT.out.lt t htT
      obtain ⟨t0, t1, t2, t3⟩ := t
      unfold Tk.cells at hbz
      simp only at hbz heq hte htge htlt
      subst hte
      obtain ⟨b0, b1, b2, b3, f0, f1, f2, f3⟩ := cells4t hbz
      have hz := hq.out.hz
      have hzl := lt_of_heap hbz
      have hsz := hq.out.below.size
      have hFl : F.length ≤ 1000 := by have := congrArg List.length heq; simp only [List.length_append] at this; omega
      have hmeas : upM (.pointer (some ⟨z, 0, none⟩)) (.bool true) wr = t0.toNat + 1 := by simp [upM, b0]
      -- behind the fact: the loop's variable anew, and the parent
      have key : Hid (∀ (X : World) (F2 : List Int) (la2 : Option Addr) (lc2 : Nat), F2 = F ++ (if 0 < t3 then [t3] else []) → X.ownsRow w.heap.size 3 1 (.slice la2 F2.length lc2) F2.length (F2.map (.int .i64)) → Below w.heap.size w X →
          Calls Try.prog 14 #[.pointer (some ⟨A.a, 0, none⟩), .int .i64 t1] (X.alloc (.cells #[.int .i64 t0, .int .i64 t1, .int .i64 t2, .int .i64 t3] 32)) fun e Y => ∃ u0 u1 u2 u3 ok, e = .returned (.tuple #[.agg #[.int .i64 u0, .int .i64 u1, .int .i64 u2, .int .i64 u3], .bool ok]) ∧
            Y.heap[X.heap.size]? = some (.cells #[.int .i64 t0, .int .i64 t1, .int .i64 t2, .int .i64 t3] 32 (0, 0)) ∧ ok = (getT T t1).isSome ∧
            TSt w ((((Y.setCell ⟨X.heap.size, 0, none⟩ (.int .i64 u0)).setCell ⟨X.heap.size, 1, none⟩ (.int .i64 u1)).setCell ⟨X.heap.size, 2, none⟩ (.int .i64 u2)).setCell ⟨X.heap.size, 3, none⟩ (.int .i64 u3)) T last n t1 F2 (.slice la2 F2.length lc2) X.heap.size ∧
            upM (.pointer (some ⟨X.heap.size, 0, none⟩)) (.bool ok) ((((Y.setCell ⟨X.heap.size, 0, none⟩ (.int .i64 u0)).setCell ⟨X.heap.size, 1, none⟩ (.int .i64 u1)).setCell ⟨X.heap.size, 2, none⟩ (.int .i64 u2)).setCell ⟨X.heap.size, 3, none⟩ (.int .i64 u3)) < t0.toNat + 1) := hide fun X F2 la2 lc2 e hrow hb => by
        have hbb : Below X.heap.size X (X.alloc (.cells #[.int .i64 t0, .int .i64 t1, .int .i64 t2, .int .i64 t3] 32)) := ((Only.refl [] X).alloc _).below
        have hbw := hb.trans (hbb.mono hb.size)
        refine (tget_any (H.out.below hbw) t1).mono ?_
        rintro e Y ⟨rfl, hY⟩
        have hXY : Y.heap[X.heap.size]? = some (.cells #[.int .i64 t0, .int .i64 t1, .int .i64 t2, .int .i64 t3] 32 (0, 0)) := (hY.block _ (by simp)).trans (heap_alloc0 X _)
        refine ⟨((getT T t1).getD noTk).id, ((getT T t1).getD noTk).parent, ((getT T t1).getD noTk).node, ((getT T t1).getD noTk).fact, _, rfl, hXY, rfl, ?_, ?_⟩
        · have ho : Only [X.heap.size] Y ((((Y.setCell ⟨X.heap.size, 0, none⟩ (.int .i64 ((getT T t1).getD noTk).id)).setCell ⟨X.heap.size, 1, none⟩ (.int .i64 ((getT T t1).getD noTk).parent)).setCell ⟨X.heap.size, 2, none⟩ (.int .i64 ((getT T t1).getD noTk).node)).setCell ⟨X.heap.size, 3, none⟩ (.int .i64 ((getT T t1).getD noTk).fact)) :=
            ((((Only.refl _ _).setCell (.inl (by simp)) _).setCell (.inl (by simp)) _).setCell (.inl (by simp)) _).setCell (.inl (by simp)) _
          have hbY := hbw.trans (hY.mono hbw.size)
          refine ⟨set4 hXY, hb.size, owns_only (owns_below (owns_below hrow hbb) hY) ho fun k hk q => ?_, below_only hbY ho (by simp; exact hb.size) hbY.size, ?_⟩
          · have := (hrow.lt k hk).2
            simp only [List.mem_singleton] at q
            omega
          · rw [e, List.append_assoc]
            exact heq
        · have hc0 := (cells4t (set4 (x' := .int .i64 ((getT T t1).getD noTk).id) (y' := .int .i64 ((getT T t1).getD noTk).parent) (z' := .int .i64 ((getT T t1).getD noTk).node) (u' := .int .i64 ((getT T t1).getD noTk).fact) hXY)).1
          cases hg : getT T t1 with
          | none => simp [upM]
          | some u =>
            obtain ⟨hu, e1⟩ := getT_some hg
            have := HT.out.ge u hu
            rw [hg] at hc0
            simp only [Option.getD_some, Option.isSome_some] at hc0 ⊢
            simp only [upM, hc0]
            omega
      have Hrow := hide hq.out.row
      have HB := hide hq.out.below
      have Hzne := hide (show Value.ownBlock (.slice la F.length lc) ≠ some z from owns_not hq.out.row hbz (by decide))
      have Hbz := hide hbz
      simp only [Option.isSome_some]
      by_cases hf : 0 < t3
      · have hf1 : decide (0 < t3) = true := by simpa using hf
        clear hq heq hbz htT hc f0 f1 f2 f3
        go_wp2_with (at_builtin; refine wpList_append_own _ rfl (.tmp 24) (.tmp 27) _ rfl w.heap.size 3 i0 (.int .i64 0) 1 8 Try.underlying36 Hi.out Hz0.out Hz1.out Hz2.out rfl (by decide) (.slice la F.length lc) F.length _ rfl (Hrow.out.alloc _) ⟨wr.heap.size, 0, none⟩ 1 1 [.int .i64 t3] rfl rfl (World.news_of_block (cs := #[.int .i64 t3]) (heap_alloc0 wr _)) (by simp [Value.oneCell']) (by unfold maxLen; omega) (by omega) (by simp; omega) ?_; intro v3 X ho3 hg3 _; obtain ⟨na, nc, rfl⟩ := row_form ho3; have HX := hide (show Below w.heap.size w X from (HB.out.alloc hsz _).grown hg3 (by simp; omega) (fun k e => (Hrow.out.lt k e).1)); have Hrow2 : Hid (X.ownsRow w.heap.size 3 1 (.slice na (F ++ [t3]).length nc) (F ++ [t3]).length ((F ++ [t3]).map (.int .i64))) := hide (by rw [List.length_append, List.map_append]; exact ho3); have b0x : X.heap[z]? = some (.cells #[.int .i64 t0, .int .i64 t1, .int .i64 t2, .int .i64 t3] 32 (0, 0)) := (hg3.block z (by simp; omega) (Ne.symm Hzne.out)).trans ((Below.heap_alloc _ _ z hzl).trans Hbz.out); obtain ⟨x0, x1, x2, x3, _⟩ := cells4t b0x; clear ho3 hg3 b0x b0 b1 b2 b3)
        have Hk := hide (key.out X (F ++ [t3]) na nc (by rw [if_pos hf]) Hrow2.out HX.out)
        clear key
        have hl1 : (F ++ [t3]).length = F.length + 1 := by simp
        rw [hl1] at Hk
        go_wp2_with fail
        (with_reducible refine Hk.out.mono ?_)
        rintro e Y ⟨u0, u1, u2, u3, ok, rfl, hY, hok, hS, hlt⟩
        obtain ⟨y0, y1, y2, y3, f0, f1, f2, f3⟩ := cells4t hY
        have HS := hide hS
        have Hok := hide hok
        have Hlt := hide hlt
        clear hY hS hok hlt Hk x0 x1 x2 x3
        go_wp2
        go_roundw
        case rel => exact ⟨t1, F ++ [t3], na, nc, _, by rw [hl1], rfl, by rw [Hok.out], by rw [hl1]; exact HS.out⟩
        case measure =>
          rw [hmeas]
          exact Hlt.out
      · have hf1 : decide (0 < t3) = false := by simpa using hf
        have Hk := hide (key.out wr F la lc (by rw [if_neg hf]; simp) Hrow.out HB.out)
        clear hq heq hbz htT hc f0 f1 f2 f3 key
        go_wp2_with fail
        (with_reducible refine Hk.out.mono ?_)
        rintro e Y ⟨u0, u1, u2, u3, ok, rfl, hY, hok, hS, hlt⟩
        obtain ⟨y0, y1, y2, y3, f0, f1, f2, f3⟩ := cells4t hY
        have HS := hide hS
        have Hok := hide hok
        have Hlt := hide hlt
        clear hY hS hok hlt Hk b0 b1 b2 b3
        go_wp2
        go_roundw
        case rel => exact ⟨t1, F, la, lc, _, rfl, rfl, by rw [Hok.out], HS.out⟩
        case measure =>
          rw [hmeas]
          exact Hlt.out
end Go.Proofs.Ytmcajoccfbebiaa
