/- Tokens: what is below one is gathered. -/
import Derived.Test.YtmcajoccfbebiaaTkL
import Derived.Test.YtmcajoccfbebiaaTk4
import Derived.Deep.AppendLies
namespace Go.Proofs.Ytmcajoccfbebiaa
open Go Go.RowKit Go.MapKept Go.Sort

def tflat : List Tk → List Value
  | [] => []
  | t :: l => .int .i64 t.id :: .int .i64 t.parent :: .int .i64 t.node :: .int .i64 t.fact :: tflat l
theorem tflat_append (l m : List Tk) : tflat (l ++ m) = tflat l ++ tflat m := by
  induction l with
  | nil => rfl
  | cons t l ih => simp [tflat, ih]
theorem tflat_length (l : List Tk) : (tflat l).length = l.length * 4 := by
  induction l with
  | nil => rfl
  | cons t l ih => simp [tflat, ih]; omega
theorem tflat_get : ∀ (l : List Tk) (i : Nat) (h : i < l.length), (tflat l)[i * 4]? = some (.int .i64 l[i].id) ∧ (tflat l)[i * 4 + 1]? = some (.int .i64 l[i].parent) ∧ (tflat l)[i * 4 + 2]? = some (.int .i64 l[i].node) ∧ (tflat l)[i * 4 + 3]? = some (.int .i64 l[i].fact)
  | [], i, h => by simp at h
  | t :: l, 0, _ => ⟨rfl, rfl, rfl, rfl⟩
  | t :: l, i + 1, h => by
    have := tflat_get l i (by simpa using h)
    rw [show (i + 1) * 4 = i * 4 + 1 + 1 + 1 + 1 by omega]
    exact this
theorem tinfo : (Try.prog.info? 32).map (fun i => (i.zero, i.size, i.bytes)) = some (some (.agg #[.int .i64 0, .int .i64 0, .int .i64 0, .int .i64 0]), 4, 32) := by kernel_rfl
theorem tinfo_parts : ∃ i, Try.prog.info? 32 = some i ∧ i.zero = some (.agg #[.int .i64 0, .int .i64 0, .int .i64 0, .int .i64 0]) ∧ i.size = 4 ∧ i.bytes = 32 := by
  have h := tinfo
  cases hi : Try.prog.info? 32 with
  | none => simp [hi] at h
  | some i =>
    rw [hi] at h
    simp only [Option.map_some, Option.some.injEq, Prod.mk.injEq] at h
    exact ⟨i, rfl, h.1, h.2.1, h.2.2⟩

/-- The closure. -/
def gFn (O ab G : Nat) : Value := .func (.func 45) #[] #[.pointer (some ⟨O, 0, none⟩), .pointer (some ⟨ab, 0, none⟩), .pointer (some ⟨G, 0, none⟩)]
/-- What stands while it is gathered: the arena, the boxes, the tokens L in a row of their own. -/
structure GSt (w : World) (A : Ar) (T : List Tk) (last : Int) (O ab G B : Nat) (v : Value) (L : List Tk) : Prop where
  ar : ArIs w A T last
  po : w.heap[O]? = some (.cells #[v] 29 (0, 0))
  row : w.ownsRow B 32 4 v L.length (tflat L)
  pa : w.heap[ab]? = some (.cells #[.pointer (some ⟨A.a, 0, none⟩)] 24 (0, 0))
  pg : w.heap[G]? = some (.cells #[gFn O ab G] 56 (0, 0))
  hB : B ≤ w.heap.size
  oB : O < B
  fO : ¬ A.foot O
  fB : ∀ k, A.foot k → k < B
theorem tk_ne_ts : 32 ≠ 29 := by decide
theorem one_cell {w : World} {b : Nat} {x : Value} {t : TypeId} (h : w.heap[b]? = some (.cells #[x] t (0, 0))) : w.cell? ⟨b, 0, none⟩ = some x ∧ w.frozen? ⟨b, 0, none⟩ = false := by
  simp [World.cell?, World.frozen?, h]
theorem blk_ne {w : World} {a b : Nat} {x y : Array Value} {s t : TypeId} (ha : w.heap[a]? = some (.cells x s (0, 0))) (hb : w.heap[b]? = some (.cells y t (0, 0))) (h : s ≠ t) : a ≠ b := by
  rintro rfl
  rw [ha] at hb
  cases hb
  exact h rfl
section
variable {w V : World} {A : Ar} {T : List Tk} {last : Int} {O ab G B : Nat} {v : Value} {L : List Tk}
theorem GSt.below (h : GSt w A T last O ab G B v L) (hb : Below w.heap.size w V) : GSt V A T last O ab G B v L :=
  ⟨h.ar.below hb, (hb.block _ (lt_of_heap h.po)).trans h.po, owns_below h.row hb, (hb.block _ (lt_of_heap h.pa)).trans h.pa, (hb.block _ (lt_of_heap h.pg)).trans h.pg, Nat.le_trans h.hB hb.size, h.oB, h.fO, h.fB⟩
/-- Another token. -/
theorem GSt.snoc {g cap : Nat} {t : Tk} (h : GSt w A T last O ab G B v L) (hrow : V.ownsRow B 32 4 (.slice (some ⟨g, 0, none⟩) (L.length + 1) cap) (L.length + 1) (tflat L ++ [.int .i64 t.id, .int .i64 t.parent, .int .i64 t.node, .int .i64 t.fact]))
    {W : World} (hW : Only [] w W) (hgrow : W.grownBy V v.ownBlock) (hat : v.ownBlock = some g ∨ w.heap.size ≤ g) :
    GSt (V.setCell ⟨O, 0, none⟩ (.slice (some ⟨g, 0, none⟩) (L.length + 1) cap)) A T last O ab G B (.slice (some ⟨g, 0, none⟩) (L.length + 1) cap) (L ++ [t]) ∧ Only (O :: v.ownBlock.toList) w (V.setCell ⟨O, 0, none⟩ (.slice (some ⟨g, 0, none⟩) (L.length + 1) cap)) := by
  have o3 : Only v.ownBlock.toList W V := Only.of_grown hgrow _ fun k hk => by rw [hk]; simp
  have oc : Only [O] V (V.setCell ⟨O, 0, none⟩ (.slice (some ⟨g, 0, none⟩) (L.length + 1) cap)) := (Only.refl _ _).setCell (.inl (by simp)) _
  have o1 : Only v.ownBlock.toList w V := (hW.mono (by simp)).trans o3
  have hO := lt_of_heap h.po
  have hOv : O ∉ v.ownBlock.toList := fun q => by
    have := (h.row.lt O (by simpa using q)).1
    have := h.oB
    omega
  have hall : Only (O :: v.ownBlock.toList) w (V.setCell ⟨O, 0, none⟩ (.slice (some ⟨g, 0, none⟩) (L.length + 1) cap)) := (o1.mono (fun _ q => .tail _ q)).trans (oc.mono (fun k q => by
    simp only [List.mem_singleton] at q
    rw [q]
    exact .head _))
  have hblk : V.heap[O]? = some (.cells #[v] 29 (0, 0)) := (o1.block O hO hOv).trans h.po
  have hgO : g ≠ O := by
    rintro rfl
    rcases hat with q | q
    · exact hOv (by simpa using q)
    · omega
  have hns : ∀ {b : Nat} {x : Array Value} {s : TypeId}, w.heap[b]? = some (.cells x s (0, 0)) → s ≠ 29 → s ≠ 32 → b ∉ O :: v.ownBlock.toList := fun {b x s} hb h1 h2 q => by
    rcases List.mem_cons.1 q with rfl | q
    · exact blk_ne hb h.po h1 rfl
    · exact owns_not h.row hb h2.symm (by simpa using q)
  refine ⟨⟨h.ar.only hall fun k hk q => ?_, (setCell_heap hblk).trans (by simp), ?_, (hall.block _ (lt_of_heap h.pa) (hns h.pa (by decide) (by decide))).trans h.pa, (hall.block _ (lt_of_heap h.pg) (hns h.pg (by decide) (by decide))).trans h.pg, Nat.le_trans h.hB hall.size, h.oB, h.fO, h.fB⟩, hall⟩
  · rcases List.mem_cons.1 q with rfl | q
    · exact h.fO hk
    · have := (h.row.lt k (by simpa using q)).1
      have := h.fB k hk
      omega
  · rw [List.length_append, tflat_append]
    exact owns_only hrow oc fun k hk => by
      simp only [Value.ownBlock, Option.some.injEq] at hk
      simpa [← hk] using hgO
end

theorem flat_take {α β : Type} (f : α → List β) (l : List α) {j : Nat} (hj : j < l.length) : (l.take (j + 1)).flatMap f = (l.take j).flatMap f ++ f l[j] := by
  rw [List.take_succ_eq_append_getElem hj, List.flatMap_append]
  simp
theorem flat_le {α β : Type} (f : α → List β) (l : List α) (j : Nat) : ((l.take j).flatMap f).length ≤ (l.flatMap f).length := by
  conv => rhs; rw [← List.take_append_drop j l]
  rw [List.flatMap_append, List.length_append]
  omega

set_option maxRecDepth 100000 in
set_option maxHeartbeats 4000000 in
theorem gather_any (A : Ar) (T : List Tk) (last : Int) (hT : TreeOk T last) (O ab G B : Nat) : ∀ (m : Nat) (n : Int) (L : List Tk) (v : Value) (w : World), (∃ t ∈ T, t.id = n) → last - n < m → GSt w A T last O ab G B v L → L.length + (pre T m n).length ≤ 2000 →
    Calls Try.prog 45 #[.int .i64 n, .pointer (some ⟨O, 0, none⟩), .pointer (some ⟨ab, 0, none⟩), .pointer (some ⟨G, 0, none⟩)] w fun e w' => e = .returned (.tuple #[]) ∧
      ∃ v', GSt w' A T last O ab G B v' (L ++ pre T m n) ∧ Only (O :: v.ownBlock.toList) w w' ∧ (∀ k, v'.ownBlock = some k → v.ownBlock = some k ∨ w.heap.size ≤ k) := by
  intro m
  induction m with
  | zero =>
    rintro n L v w ⟨t, ht, rfl⟩ hm
    have := (hT.ge t ht).2
    omega
  | succ m ih =>
    rintro n L v w ⟨t, ht, rfl⟩ hm h hlen
    have Hih := hide ih
    clear ih
    obtain ⟨la, lc, rfl⟩ := row_form h.row
    obtain ⟨po, fo⟩ := one_cell h.po
    obtain ⟨pa, _⟩ := one_cell h.pa
    obtain ⟨_, a1, _, _, _, _⟩ := cells5 h.ar.r.blk
    have oD : Below w.heap.size w w.drew := (Only.drew (Only.refl [] w)).below
    have hlook := run_lookup1 (P := Try.prog) (t := 76) Try.underlying76 Try.underlying3 (h.ar.below oD).r.by' (zero_tk _) t.id
    rw [look_T, hT.get ht] at hlook
    obtain ⟨i0, hi, hz0, hz1, hz2⟩ := tinfo_parts
    have hpre : pre T (m + 1) t.id = t :: (ofG kG T t.id).flatMap (pre T m) := by
      rw [pre, hT.get ht]
      rfl
    rw [hpre] at hlen ⊢
    simp only [List.length_cons] at hlen
    have hkl := ofG_len kG T t.id
    have htl := h.ar.len
    have Hkid : Hid (∀ k ∈ ofG kG T t.id, (∃ u ∈ T, u.id = k) ∧ last - k < m) := hide fun k hk => by
      obtain ⟨u, hu, _, hp, e⟩ := kid_mem.1 hk
      have := hT.lt u hu
      exact ⟨⟨u, hu, e⟩, by omega⟩
    have HK := hide hT.asc
    obtain ⟨K, hK⟩ : ∃ K, ofG kG T t.id = K := ⟨_, rfl⟩
    rw [hK] at hlen hkl Hkid ⊢
    have HKe := hide hK
    obtain ⟨t0, t1, t2, t3⟩ := t
    simp only [Option.map_some, Option.getD_some, Tk.val] at hlook HKe hm ⊢
    have hO := lt_of_heap h.po
    have p0a := (((Only.refl [] w).alloc (Obj.cells #[.int .i64 t0, .int .i64 t1, .int .i64 t2, .int .i64 t3] 32)).drew.cell (p := ⟨O, 0, none⟩) hO (by simp)).trans po
    have Ow2 : Hid ((w.alloc (Obj.cells #[.int .i64 t0, .int .i64 t1, .int .i64 t2, .int .i64 t3] 32)).drew.ownsRow B 32 4 (.slice la L.length lc) L.length (tflat L)) := hide (owns_below (h.row.alloc (Obj.cells #[.int .i64 t0, .int .i64 t1, .int .i64 t2, .int .i64 t3] 32)) (Only.drew (Only.refl [] _)).below)
    have hOr : Value.ownBlock (.slice la L.length lc) ≠ some O := fun e => by
      have := (h.row.lt O e).1
      have := h.oB
      omega
    have HOr := hide hOr
    have H := hide h
    have Hi := hide hi
    have Hz0 := hide hz0
    have Hz1 := hide hz1
    have Hz2 := hide hz2
    have hB := h.hB
    have HLl : Hid ((tflat L).length = L.length * 4) := hide (tflat_length L)
    have hLlen : L.length ≤ 2000 := by omega
    have OW2 : Hid (Only [] w (w.alloc (Obj.cells #[.int .i64 t0, .int .i64 t1, .int .i64 t2, .int .i64 t3] 32)).drew) := hide (Only.drew ((Only.refl [] w).alloc _))
    have HS1 : Hid ((w.alloc (Obj.cells #[.int .i64 t0, .int .i64 t1, .int .i64 t2, .int .i64 t3] 32)).drew.heap.size = w.heap.size + 1) := hide (by show (w.alloc (Obj.cells #[.int .i64 t0, .int .i64 t1, .int .i64 t2, .int .i64 t3] 32)).heap.size = _; simp)
    clear h hi hz0 hz1 hz2 hOr hK hpre oD ht hT
    go_enter Try.func45, Try.ntmps45
    go_wp2_with fail
    go_region_law
      ((refine step_append_lies _ (by rfl) _ _ _ (by rfl) B 32 i0 (.agg #[.int .i64 0, .int .i64 0, .int .i64 0, .int .i64 0]) 4 32 Try.underlying29 Hi.out Hz0.out Hz1.out Hz2.out rfl (by decide) (.slice la L.length lc) L.length (tflat L) (by rfl) Ow2.out ⟨w.heap.size, 0, none⟩ 1 1 [.int .i64 t0, .int .i64 t1, .int .i64 t2, .int .i64 t3] (by rfl) (by rfl) (World.news_of_block (cs := #[.int .i64 t0, .int .i64 t1, .int .i64 t2, .int .i64 t3]) (t := 32) (fr := (0, 0)) (heap_alloc0 w _)) (by simp [Value.oneCell']) (by decide) (by unfold maxLen; omega) (by omega) (by rw [HS1.out]; omega) (w.heap.size + 1) HS1.out ?_; intro g cap w3 hown3 hgrow hat hlt; have r0 := (hgrow.cell_far ⟨O, 0, none⟩ (by show O < _; rw [HS1.out]; omega) (Ne.symm HOr.out)).trans p0a; have rf := (hgrow.frozen_far ⟨O, 0, none⟩ (by show O < _; rw [HS1.out]; omega) (Ne.symm HOr.out)).trans ((OW2.out.frozen (p := ⟨O, 0, none⟩) hO (by simp)).trans fo)))
    all_goals
      have hG := H.out.snoc (t := ⟨t0, t1, t2, t3⟩) hown3 OW2.out hgrow (by
        rcases hat with q | q
        · exact .inl q
        · exact .inr (by omega))
      have Hat : Hid (∀ k, Value.ownBlock (.slice (some ⟨g, 0, none⟩) (L.length + 1) cap) = some k → Value.ownBlock (.slice la L.length lc) = some k ∨ w.heap.size ≤ k) := hide fun k hk => by
        simp only [Value.ownBlock, Option.some.injEq] at hk
        subst hk
        rcases hat with q | q
        · exact .inl q
        · exact .inr (by omega)
      clear hown3 hgrow hat hlt r0 rf p0a po fo pa a1 hlook Ow2 OW2 HS1 HOr hO
      obtain ⟨W1, hW1⟩ : ∃ W1, w3.setCell ⟨O, 0, none⟩ (.slice (some ⟨g, 0, none⟩) (L.length + 1) cap) = W1 := ⟨_, rfl⟩
      rw [hW1] at hG ⊢
      clear hW1
      obtain ⟨hG1, hG2⟩ := hG
      obtain ⟨pa, _⟩ := one_cell hG1.pa
      obtain ⟨_, _, a2, _, _, _⟩ := cells5 hG1.ar.r.blk
      have hr := rising_any A.mki A.Kk (ofG kG T) t0 W1 hG1.ar.r.kids (hG1.ar.wf kG t0) (by rw [HKe.out]; omega)
      rw [rise_of HK.out, HKe.out] at hr
      have Hr := hide hr
      have HG1 := hide hG1
      have HG2 := hide hG2
      clear hr hG1 hG2
      go_wp2_with fail
      (with_reducible refine Hr.out.mono ?_)
      rintro e V ⟨kv, rfl, hrow, hbV⟩
      obtain ⟨ka, kc, rfl⟩ := row_form hrow
      have HS : Hid (∃ vj, GSt V A T last O ab G B vj (L ++ [⟨t0, t1, t2, t3⟩] ++ (K.take 0).flatMap (pre T m)) ∧ Only (O :: (Value.ownBlock (.slice la L.length lc)).toList) w V ∧ (∀ k, vj.ownBlock = some k → Value.ownBlock (.slice la L.length lc) = some k ∨ w.heap.size ≤ k) ∧ V.ownsRow w.heap.size 3 1 (.slice ka K.length kc) K.length (K.map (.int .i64))) :=
        hide ⟨_, by simpa using HG1.out.below hbV, HG2.out.trans (Only.of_below hbV _), Hat.out, owns_base hrow HG2.out.size⟩
      clear hrow hbV Hr HG1 HG2 Hat pa a2
      go_wp2_with fail
      go_loopw [23] (fun vi wr => ∃ j : Nat, j ≤ K.length ∧ vi = .int .i64 j ∧ Hid (∃ vj, GSt wr A T last O ab G B vj (L ++ [⟨t0, t1, t2, t3⟩] ++ (K.take j).flatMap (pre T m)) ∧ Only (O :: (Value.ownBlock (.slice la L.length lc)).toList) w wr ∧ (∀ k, vj.ownBlock = some k → Value.ownBlock (.slice la L.length lc) = some k ∨ w.heap.size ≤ k) ∧ wr.ownsRow w.heap.size 3 1 (.slice ka K.length kc) K.length (K.map (.int .i64)))) (fun vi _ => K.length - (intOf vi).toNat)
      case atStart => exact ⟨0, Nat.zero_le _, rfl, HS.out⟩
      case round =>
        obtain ⟨j, hj, rfl, hq⟩ := hrel
        obtain ⟨vj, q1, q2, q3, q4⟩ := hq.out
        by_cases hjl : j < K.length
        · obtain ⟨bk, bc, ek, d0⟩ : ∃ bk bc, Value.slice ka K.length kc = .slice (some ⟨bk, 0, none⟩) K.length bc ∧ wr.cell? ⟨bk, j, none⟩ = some (.int .i64 K[j]) := by
            rcases q4.2 with ⟨e, e0⟩ | ⟨g, cap, cur, e, hb, hg, _⟩
            · omega
            · have hc := World.ownsRow.cells q4 (g := g) (by rw [e]; rfl) j (.int .i64 K[j]) (by simp [hjl])
              rw [Addr.add_lit, Nat.zero_add] at hc
              exact ⟨g, cap, e, hc⟩
          injection ek with e1 e2 e3
          subst e1
          clear e2 e3
          obtain ⟨pg, _⟩ := one_cell q1.pg
          unfold gFn at pg
          obtain ⟨hk1, hk2⟩ := Hkid.out K[j] (List.getElem_mem hjl)
          have hft := flat_take (pre T m) K hjl
          have hfl := flat_le (pre T m) K (j + 1)
          rw [hft, List.length_append] at hfl
          have Hc := hide (Hih.out K[j] _ vj wr hk1 hk2 q1 (by simp only [List.length_append, List.length_cons, List.length_nil]; omega))
          have Hft := hide hft
          have HQ := hide (And.intro q2 (And.intro q3 q4))
          have HvB : Hid (∀ k, vj.ownBlock = some k → B ≤ k ∧ k < wr.heap.size) := hide fun k hk => q1.row.lt k hk
          have HvT : Hid (∀ k, (Value.ownBlock (.slice (some ⟨bk, 0, none⟩) K.length kc)) = some k → k ∉ O :: vj.ownBlock.toList) := hide fun k hk hm => by
            rcases List.mem_cons.1 hm with rfl | hm
            · exact owns_not q4 q1.po (by decide) hk
            · exact owns_ne (by decide) q4 q1.row hk (by simpa using hm)
          obtain ⟨kz, hkz⟩ : ∃ kz, K[j] = kz := ⟨_, rfl⟩
          rw [hkz] at d0 Hc Hft
          have i1 : (0 : Int) ≤ (j : Int) := by omega
          have i2 : (j : Int) < (K.length : Int) := by omega
          clear hq q1 q2 q3 q4 hft hfl hk1 hk2 hkz HS
          go_wp2_with fail
          (with_reducible refine Hc.out.mono ?_)
          rintro e V2 ⟨rfl, v2, g1, g2, g3⟩
          have HN : Hid (∃ vj, GSt V2 A T last O ab G B vj (L ++ [⟨t0, t1, t2, t3⟩] ++ (K.take (j + 1)).flatMap (pre T m)) ∧ Only (O :: (Value.ownBlock (.slice la L.length lc)).toList) w V2 ∧ (∀ k, vj.ownBlock = some k → Value.ownBlock (.slice la L.length lc) = some k ∨ w.heap.size ≤ k) ∧ V2.ownsRow w.heap.size 3 1 (.slice (some ⟨bk, 0, none⟩) K.length kc) K.length (K.map (.int .i64))) := by
            obtain ⟨q2, q3, q4⟩ := HQ.out
            have hz := q2.size
            refine ⟨v2, by rw [Hft.out, ← List.append_assoc]; exact g1, q2.step g2 fun k hk => ?_, fun k hk => ?_, owns_only q4 g2 HvT.out⟩
            · rcases List.mem_cons.1 hk with rfl | hk
              · exact .inl (.head _)
              · rcases q3 k (by simpa using hk) with r | r
                · exact .inl (List.mem_cons_of_mem _ (by simpa using r))
                · exact .inr r
            · rcases g3 k hk with r | r
              · exact q3 k r
              · exact .inr (by omega)
          clear g1 g2 g3 HQ Hc HvB HvT Hft d0 pg
          go_wp2
          go_roundw
          case rel => exact ⟨j + 1, by omega, by go_num, HN⟩
          case measure => simp [intOf]; omega
        · obtain rfl : j = K.length := by omega
          rw [List.take_length] at q1
          have HF := hide (And.intro q1 (And.intro q2 q3))
          clear hq q1 q2 q3 q4 HS
          go_wp2
          go_end0
          exact ⟨rfl, vj, by simpa using HF.out.1, HF.out.2.1, HF.out.2.2⟩
end Go.Proofs.Ytmcajoccfbebiaa
