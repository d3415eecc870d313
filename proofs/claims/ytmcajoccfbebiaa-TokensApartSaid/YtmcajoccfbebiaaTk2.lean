/- Tokens: the arena; what it tells. -/
import Derived.Test.YtmcajoccfbebiaaTk1
import Derived.Test.YtmcajoccfbebiaaIter
import Derived.Shelf.SlIterI.Sorted
import Derived.Shelf.SlIterI.Nil
namespace Go.Proofs.Ytmcajoccfbebiaa
open Go Go.RowKit Go.MapKept Go.Sort Go.Shelf Go.Maps

/-- Every value reads as true: nothing is asked of values. -/
def anyR (_ : Value) : Option (DataW Unit × List MemPlace) := some (.lit (.bool true), [])
theorem imap_owns {w : World} {b : Nat} {l : List (Int × Value)} (h : IMap w b l) (hwf : ∀ p ∈ l, (Lit.int .i64 p.1).wf = true) (hlen : l.length ≤ 1000000) :
    ∃ D : DataW Unit, w.ownsMap Try.prog 3 anyR b l.length D ∧ (intKeys D).Perm (l.map (·.1)) ∧ Maps.size D = l.length := by
  obtain ⟨es, c, h1, h2, h3⟩ := h
  have hsz := IMap.size h3
  have hrd : ∀ x ∈ es.toList, ∃ p ∈ l, x.key = .int .i64 p.1 ∧ WideElems.rd Try.prog 3 anyR x = some (.int .i64 p.1, .lit (.bool true)) := by
    intro x hx
    obtain ⟨p, hp, hk, hv⟩ := entry_at h3 hx
    refine ⟨p, hp, hk, ?_⟩
    simp [WideElems.rd, hk, keyOf, Try.underlying3, mapKey, hwf p hp, anyR]
  have hrg : es.toList.map (WideElems.rg Try.prog 3 anyR) = l.map (fun p => (Lit.int .i64 p.1, DataW.lit (.bool true))) := by
    have : es.toList.map (WideElems.rg Try.prog 3 anyR) = (es.toList.map (fun e => (e.key, e.val))).map (fun q => match q.1 with | .int .i64 n => (Lit.int .i64 n, DataW.lit (.bool true)) | _ => (Lit.bool false, DataW.nil)) := by
      rw [List.map_map]
      refine List.map_congr_left fun x hx => ?_
      obtain ⟨p, hp, hk, hr⟩ := hrd x hx
      simp [WideElems.rg, hr, hk]
    rw [this, h3, List.map_map]
    rfl
  refine ⟨.map ((es.toList.map (WideElems.rg Try.prog 3 anyR)).foldr DataW.insert []), ⟨es, c, h1, ⟨by unfold maxLen; omega, h2, fun x hx => ?_⟩, by omega, rfl⟩, ?_, ?_⟩
  · obtain ⟨p, _, _, hr⟩ := hrd x hx
    exact ⟨_, hr⟩
  · rw [hrg]
    unfold intKeys
    refine ((WideShapes.sorted_perm _).map _).trans ?_
    rw [List.map_map]
    exact List.Perm.of_eq (List.map_congr_left fun p _ => rfl)
  · simp [Maps.size, length_sorted, hsz]

/-- Ints, rising. -/
def rise (l : List Int) : List Int := l.mergeSort fun x y => decide (x ≤ y)
theorem rise_perm (l : List Int) : (rise l).Perm l := List.mergeSort_perm _ _
theorem rise_sorted (l : List Int) : (rise l).Pairwise (· ≤ ·) := by
  have := List.pairwise_mergeSort (le := fun x y : Int => decide (x ≤ y)) (fun a b c h1 h2 => by simp at *; omega) (fun a b => by simp; omega) l
  exact this.imp fun h => by simpa using h
theorem rise_unique {a b : List Int} (hp : a.Perm b) (ha : a.Pairwise (· ≤ ·)) : a = rise b :=
  List.Perm.eq_of_pairwise (le := (· ≤ ·)) (fun _ _ _ _ h1 h2 => Int.le_antisymm h1 h2) ha (rise_sorted b) (hp.trans (rise_perm b).symm)
theorem rise_congr {a b : List Int} (hp : a.Perm b) : rise a = rise b := rise_unique ((rise_perm a).trans hp) (rise_sorted a)
theorem rise_self {a : List Int} (h : a.Pairwise (· < ·)) : rise a = a := (rise_unique (List.Perm.refl a) (h.imp fun h => Int.le_of_lt h)).symm

theorem tcollect_none (w : World) : 
    Calls Try.prog 90 #[.func (.func 96) #[] #[.pointer (some ⟨w.heap.size, 0, none⟩)]] (w.alloc (.cells #[.map none] 28)) fun e w' => ∃ (v : Value) (ss : List Int), e = .returned v ∧ ss.Perm [] ∧
      w'.ownsRow (w.heap.size + 1) 3 1 v ss.length (ss.map encZ) ∧ Below (w.heap.size + 1) (w.alloc (.cells #[.map none] 28)) w' := by
  have hseq : SeqGives Fence.wide 2 Try.prog 96 #[.pointer (some ⟨w.heap.size, 0, none⟩)] encZ (fun ss => ss = []) 0 (w.alloc (.cells #[.map none] 28)) :=
    AnyZI.keys_gives_nil (ρ := Try.keys81_ren) { Try.keys81 with } Fence.wide _ trivial rfl w.heap.size _ (by simp) (by simp)
  have hc := AnyZI.collect_in Try.collect90 Fence.wide 4 trivial trivial rfl (by omega) 96 #[.pointer (some ⟨w.heap.size, 0, none⟩)] trivial (enters_of Try.func96 (by kernel_rfl) rfl) _ _ (by unfold maxLen; omega) (by omega) _ hseq
  refine (callsIn_wide.1 hc).mono ?_
  rintro e w' ⟨v, ss, rfl, hp, hrow, hnil, hb⟩
  simp only [World.size_alloc] at hrow hb
  exact ⟨v, ss, rfl, by rw [hp], hrow, hb⟩
theorem tcollect_some (b : Nat) (l : List Int) (w : World) (h : IMap w b (idp l)) (hwf : ∀ i ∈ l, (Lit.int .i64 i).wf = true) (hlen : l.length ≤ 1000000) :
    Calls Try.prog 90 #[.func (.func 96) #[] #[.pointer (some ⟨w.heap.size, 0, none⟩)]] (w.alloc (.cells #[.map (some b)] 28)) fun e w' => ∃ (v : Value) (ss : List Int), e = .returned v ∧ ss.Perm l ∧
      w'.ownsRow (w.heap.size + 1) 3 1 v ss.length (ss.map encZ) ∧ Below (w.heap.size + 1) (w.alloc (.cells #[.map (some b)] 28)) w' := by
  have hk : (idp l).map (·.1) = l := by unfold idp; rw [List.map_map]; exact List.map_id'' (fun _ => rfl) l
  obtain ⟨D, hown, hperm, hsize⟩ := imap_owns h (fun p hp => by obtain ⟨i, hi, rfl⟩ := List.mem_map.1 hp; exact hwf i hi) (by simpa [idp] using hlen)
  rw [hk] at hperm
  have hlI : (idp l).length = l.length := by simp [idp]
  have hbl := h.lt
  have hseq : SeqGives Fence.wide 2 Try.prog 96 #[.pointer (some ⟨w.heap.size, 0, none⟩)] encZ (fun ss => ss.Perm (intKeys D)) (Maps.size D) (w.alloc (.cells #[.map (some b)] 28)) :=
    AnyZI.keys_gives (ρ := Try.keys81_ren) { Try.keys81 with } Fence.wide _ trivial rfl (by omega) w.heap.size b (idp l).length D _ (by simp) (by simp) (by
      obtain ⟨es, clock, hb, Ft, hs, hD⟩ := hown
      exact ⟨es, clock, (Below.heap_alloc _ _ b hbl).trans hb, Ft, hs, hD⟩)
  have hc := AnyZI.collect_in Try.collect90 Fence.wide 4 trivial trivial rfl (by omega) 96 #[.pointer (some ⟨w.heap.size, 0, none⟩)] trivial (enters_of Try.func96 (by kernel_rfl) rfl) _ _ (by rw [hsize]; unfold maxLen; omega) (by rw [hsize]; omega) _ hseq
  refine (callsIn_wide.1 hc).mono ?_
  rintro e w' ⟨v, ss, rfl, hp, hrow, hnil, hb⟩
  simp only [World.size_alloc] at hrow hb
  exact ⟨v, ss, rfl, hp.trans hperm, hrow, hb⟩
theorem tkeys_any (o : Option Nat) (w : World) : Calls Try.prog 81 #[.map o] w fun e w' =>
    e = .returned (.func (.func 96) #[] #[.pointer (some ⟨w.heap.size, 0, none⟩)]) ∧ w' = w.alloc (.cells #[.map o] 28) :=
  callsIn_wide.1 (AnyZI.keys_in Try.keys81 Fence.wide 5 trivial rfl o w)

theorem tsorted (g : FuncId) (lb : Array Value) (l : List Int) (B : Nat) (w W : World) (hB1 : Below w.heap.size w W) (hB : w.heap.size ≤ B) (hl : l.length ≤ 1000000)
    (hc : Calls Try.prog 90 #[.func (.func g) #[] lb] W fun e w' => ∃ (v : Value) (ss : List Int), e = .returned v ∧ ss.Perm l ∧ w'.ownsRow B 3 1 v ss.length (ss.map encZ) ∧ Below B W w') :
    Calls Try.prog 63 #[.func (.func g) #[] lb] W fun e w' => ∃ v, e = .returned v ∧ w'.ownsRow w.heap.size 3 1 v l.length ((rise l).map (.int .i64)) ∧ Below w.heap.size w w' := by
  have Hc := hide hc
  have HB1 := hide hB1
  clear hc hB1
  go_enter Try.func63, Try.ntmps63
  go_wp2_with fail
  (with_reducible refine Hc.out.mono ?_)
  rintro e V ⟨v, ss, rfl, hp, hrow, hb⟩
  have hsl : ss.length = l.length := hp.length_eq
  have hbV := HB1.out.trans (hb.mono hB)
  have Hs := hide (nsort B v ss V (by omega) hrow)
  have Hids : Hid (rise l = rise ss) := hide (rise_congr hp.symm)
  have Hrow := hide hrow
  have HbV := hide hbV
  have Hsl := hide hsl
  obtain ⟨va, vc, rfl⟩ := row_form hrow
  clear hp hrow hb Hc hbV hsl
  go_wp2_with fail
  (with_reducible refine Hs.out.mono ?_)
  rintro e V2 ⟨rfl, hr2, hg2⟩
  have HR2 : Hid (V2.ownsRow w.heap.size 3 1 (.slice va ss.length vc) l.length ((rise l).map (.int .i64))) := hide (by
    rw [Hids.out, ← Hsl.out]
    exact owns_base hr2 hB)
  have HB2 := hide (HbV.out.grown hg2 HbV.out.size (fun k e => by have := (Hrow.out.lt k e).1; omega))
  clear hr2 hg2
  go_wp2
  go_ret
  exact ⟨_, rfl, HR2.out, HB2.out⟩

set_option maxRecDepth 100000 in
theorem rising_any (ms : Nat) (K : List (Int × Nat)) (F : Int → List Int) (n : Int) (w : World) (h : SetsIs w ms K F) (hwf : ∀ i ∈ F n, (Lit.int .i64 i).wf = true) (hlen : (F n).length ≤ 1000000) :
    Calls Try.prog 46 #[.map (some ms), .int .i64 n] w fun e w' => ∃ v, e = .returned v ∧ w'.ownsRow w.heap.size 3 1 v (F n).length ((rise (F n)).map (.int .i64)) ∧ Below w.heap.size w w' := by
  have hl := run_lookup1 (P := Try.prog) (t := 78) Try.underlying78 Try.underlying3 h.map (zero_ii _) n
  rw [look_K] at hl
  have hall : ∀ o : Option Nat, Below w.heap.size w (w.alloc (.cells #[.map o] 28)) := fun o => ((Only.refl [] w).alloc _).below
  obtain ⟨o, ho, hso⟩ : ∃ o : Option Nat, ((getK K n).map fun b => Value.map (some b)).getD (.map none) = .map o ∧
      Calls Try.prog 63 #[.func (.func 96) #[] #[.pointer (some ⟨w.heap.size, 0, none⟩)]] (w.alloc (.cells #[.map o] 28)) fun e w' => ∃ v, e = .returned v ∧ w'.ownsRow w.heap.size 3 1 v (F n).length ((rise (F n)).map (.int .i64)) ∧ Below w.heap.size w w' := by
    cases hb : getK K n with
    | none => exact ⟨none, rfl, tsorted _ _ _ (w.heap.size + 1) w _ (hall none) (by omega) hlen (by rw [h.no n hb]; exact tcollect_none w)⟩
    | some b => exact ⟨some b, rfl, tsorted _ _ _ (w.heap.size + 1) w _ (hall (some b)) (by omega) hlen (tcollect_some b (F n) w (h.yes n b hb) hwf hlen)⟩
  rw [ho] at hl
  have Hso := hide hso
  clear h hwf hlen hall ho hso
  go_enter Try.func46, Try.ntmps46
  go_wp2_with fail
  (with_reducible refine (tkeys_any o w).mono ?_)
  rintro e W ⟨rfl, rfl⟩
  go_wp2_with fail
  (with_reducible refine Hso.out.mono ?_)
  rintro e V ⟨v, rfl, h1, h2⟩
  obtain ⟨va, vc, rfl⟩ := row_form h1
  have HF := hide (And.intro h1 h2)
  clear h1 h2 Hso
  go_wp2
  go_ret
  exact ⟨_, rfl, HF.out.1, HF.out.2⟩

/-- A token. -/
structure Tk where
  id : Int
  parent : Int
  node : Int
  fact : Int
def Tk.val (t : Tk) : Value := .agg #[.int .i64 t.id, .int .i64 t.parent, .int .i64 t.node, .int .i64 t.fact]
def Tk.pair (t : Tk) : Int × Value := (t.id, t.val)
/-- Under which number a token is told. -/
def kG (t : Tk) : Option Int := if t.id = 0 then none else some t.parent
def aG (t : Tk) : Option Int := some t.node
def wG (t : Tk) : Option Int := if 0 < t.fact then some t.fact else none
def ofG (g : Tk → Option Int) (T : List Tk) (n : Int) : List Int := (T.filter fun t => g t == some n).map Tk.id

/-- An arena's blocks. -/
structure Ar where
  a : Nat
  mb : Nat
  mki : Nat
  ma : Nat
  mw : Nat
  Kk : List (Int × Nat)
  Ka : List (Int × Nat)
  Kw : List (Int × Nat)
def Ar.foot (A : Ar) (k : Nat) : Prop := k = A.a ∨ k = A.mb ∨ k ∈ blks A.mki A.Kk ∨ k ∈ blks A.ma A.Ka ∨ k ∈ blks A.mw A.Kw
def Ar.all (A : Ar) : List Nat := A.a :: A.mb :: (blks A.mki A.Kk ++ (blks A.ma A.Ka ++ blks A.mw A.Kw))
theorem Ar.mem_all {A : Ar} {k : Nat} : k ∈ A.all ↔ A.foot k := by
  unfold Ar.all Ar.foot
  simp only [List.mem_cons, List.mem_append]
/-- The arena's block, its maps: the tokens T, its last number, and what its three sets have. -/
structure Ar4 (w : World) (A : Ar) (T : List Tk) (Fk Fa Fw : Int → List Int) (last : Int) : Prop where
  blk : w.heap[A.a]? = some (.cells #[.int .i64 last, .map (some A.mb), .map (some A.mki), .map (some A.ma), .map (some A.mw)] 80 (0, 0))
  by' : IMap w A.mb (T.map Tk.pair)
  kids : SetsIs w A.mki A.Kk Fk
  at' : SetsIs w A.ma A.Ka Fa
  wit : SetsIs w A.mw A.Kw Fw
  dk : ∀ k ∈ blks A.mki A.Kk, k ∉ blks A.ma A.Ka ∧ k ∉ blks A.mw A.Kw ∧ k ≠ A.mb
  da : ∀ k ∈ blks A.ma A.Ka, k ∉ blks A.mw A.Kw ∧ k ≠ A.mb
  dw : ∀ k ∈ blks A.mw A.Kw, k ≠ A.mb
/-- The arena has the tokens T. -/
structure ArIs (w : World) (A : Ar) (T : List Tk) (last : Int) : Prop where
  r : Ar4 w A T (ofG kG T) (ofG aG T) (ofG wG T) last
  len : T.length ≤ 1000
  ids : ∀ t ∈ T, 0 ≤ t.id ∧ t.id ≤ 1000
section
variable {w V : World} {A : Ar} {T : List Tk} {Fk Fa Fw : Int → List Int} {last : Int}
theorem Ar4.lt (h : Ar4 w A T Fk Fa Fw last) {k : Nat} (hk : A.foot k) : k < w.heap.size := by
  rcases hk with rfl | rfl | hk | hk | hk
  · exact lt_of_heap h.blk
  · exact h.by'.lt
  · exact h.kids.lt k hk
  · exact h.at'.lt k hk
  · exact h.wit.lt k hk
theorem Ar4.only {S : List Nat} (h : Ar4 w A T Fk Fa Fw last) (ho : Only S w V) (hS : ∀ k, A.foot k → k ∉ S) : Ar4 V A T Fk Fa Fw last :=
  ⟨(ho.block _ (lt_of_heap h.blk) (hS _ (.inl rfl))).trans h.blk, h.by'.only ho (hS _ (.inr (.inl rfl))), h.kids.only ho fun k hk => hS k (.inr (.inr (.inl hk))), h.at'.only ho fun k hk => hS k (.inr (.inr (.inr (.inl hk)))), h.wit.only ho fun k hk => hS k (.inr (.inr (.inr (.inr hk)))), h.dk, h.da, h.dw⟩
theorem Ar4.below (h : Ar4 w A T Fk Fa Fw last) (hb : Below w.heap.size w V) : Ar4 V A T Fk Fa Fw last := h.only (S := []) (Only.of_below hb []) (by simp)
/-- The arena's block is none of its maps'. -/
theorem not_map {b : Nat} {l : List (Int × Value)} {cs : Array Value} {t : TypeId} (h : w.heap[b]? = some (.cells cs t (0, 0))) (hm : IMap w b l) : False := by
  obtain ⟨es, c, h1, _⟩ := hm
  rw [h] at h1
  cases h1
theorem SetsIs.imap {ms : Nat} {K : List (Int × Nat)} {F : Int → List Int} (h : SetsIs w ms K F) {k : Nat} (hk : k ∈ blks ms K) : ∃ l, IMap w k l := by
  rcases List.mem_cons.1 hk with rfl | hk
  · exact ⟨_, h.map⟩
  · obtain ⟨p, hp, rfl⟩ := List.mem_map.1 hk
    obtain ⟨b, hb⟩ : ∃ b, getK K p.1 = some b := by
      cases hc : getK K p.1 with
      | none =>
        unfold getK at hc
        have := List.find?_eq_none.1 (Option.map_eq_none_iff.1 hc) p hp
        simp at this
      | some b => exact ⟨b, rfl⟩
    have hnd := h.map.nodup
    have e : (mpK K).map (·.1) = K.map (·.1) := by unfold mpK; rw [List.map_map]; rfl
    rw [e] at hnd
    have hbe : b = p.2 := by
      have hm := getK_mem hb
      have h1 := List.pairwise_map.1 hnd
      rcases pairwise_cases h1 hm hp with q | q | q
      · exact congrArg Prod.snd q
      · exact absurd rfl q
      · exact absurd rfl q
    rw [← hbe]
    exact ⟨_, h.yes _ _ hb⟩
theorem Ar4.ane (h : Ar4 w A T Fk Fa Fw last) : A.a ≠ A.mb ∧ A.a ∉ blks A.mki A.Kk ∧ A.a ∉ blks A.ma A.Ka ∧ A.a ∉ blks A.mw A.Kw := by
  refine ⟨fun e => not_map h.blk (e ▸ h.by'), fun e => ?_, fun e => ?_, fun e => ?_⟩
  · obtain ⟨l, q⟩ := h.kids.imap e
    exact not_map h.blk q
  · obtain ⟨l, q⟩ := h.at'.imap e
    exact not_map h.blk q
  · obtain ⟨l, q⟩ := h.wit.imap e
    exact not_map h.blk q
/-- One of the sets turns. -/
theorem Ar4.setK (h : Ar4 w A T Fk Fa Fw last) {K' : List (Int × Nat)} {F' : Int → List Int} (hs : SetsIs V A.mki K' F') (ho : Only (blks A.mki A.Kk) w V) (hf : ∀ k ∈ blks A.mki K', k ∈ blks A.mki A.Kk ∨ w.heap.size ≤ k) :
    Ar4 V { A with Kk := K' } T F' Fa Fw last := by
  obtain ⟨a1, a2, a3, a4⟩ := h.ane
  refine ⟨(ho.block _ (lt_of_heap h.blk) a2).trans h.blk, h.by'.only ho fun q => (h.dk _ q).2.2 rfl, hs, h.at'.only ho fun k hk q => (h.dk k q).1 hk, h.wit.only ho fun k hk q => (h.dk k q).2.1 hk, fun k hk => ?_, h.da, h.dw⟩
  rcases hf k hk with q | q
  · exact h.dk k q
  · refine ⟨fun e => ?_, fun e => ?_, fun e => ?_⟩
    · have := h.at'.lt k e
      omega
    · have := h.wit.lt k e
      omega
    · have := h.by'.lt
      simp only at e
      omega
theorem Ar4.setA (h : Ar4 w A T Fk Fa Fw last) {K' : List (Int × Nat)} {F' : Int → List Int} (hs : SetsIs V A.ma K' F') (ho : Only (blks A.ma A.Ka) w V) (hf : ∀ k ∈ blks A.ma K', k ∈ blks A.ma A.Ka ∨ w.heap.size ≤ k) :
    Ar4 V { A with Ka := K' } T Fk F' Fw last := by
  obtain ⟨a1, a2, a3, a4⟩ := h.ane
  refine ⟨(ho.block _ (lt_of_heap h.blk) a3).trans h.blk, h.by'.only ho fun q => (h.da _ q).2 rfl, h.kids.only ho fun k hk q => (h.dk k hk).1 q, hs, h.wit.only ho fun k hk q => (h.da k q).1 hk, fun k hk => ⟨fun e => ?_, (h.dk k hk).2⟩, fun k hk => ?_, h.dw⟩
  · rcases hf k e with q | q
    · exact (h.dk k hk).1 q
    · have := h.kids.lt k hk
      omega
  · rcases hf k hk with q | q
    · exact h.da k q
    · refine ⟨fun e => ?_, fun e => ?_⟩
      · have := h.wit.lt k e
        omega
      · have := h.by'.lt
        simp only at e
        omega
theorem Ar4.setW (h : Ar4 w A T Fk Fa Fw last) {K' : List (Int × Nat)} {F' : Int → List Int} (hs : SetsIs V A.mw K' F') (ho : Only (blks A.mw A.Kw) w V) (hf : ∀ k ∈ blks A.mw K', k ∈ blks A.mw A.Kw ∨ w.heap.size ≤ k) :
    Ar4 V { A with Kw := K' } T Fk Fa F' last := by
  obtain ⟨a1, a2, a3, a4⟩ := h.ane
  refine ⟨(ho.block _ (lt_of_heap h.blk) a4).trans h.blk, h.by'.only ho fun q => h.dw _ q rfl, h.kids.only ho fun k hk q => (h.dk k hk).2.1 q, h.at'.only ho fun k hk q => (h.da k hk).1 q, hs, fun k hk => ⟨(h.dk k hk).1, fun e => ?_, (h.dk k hk).2.2⟩, fun k hk => ⟨fun e => ?_, (h.da k hk).2⟩, fun k hk => ?_⟩
  · rcases hf k e with q | q
    · exact (h.dk k hk).2.1 q
    · have := h.kids.lt k hk
      omega
  · rcases hf k e with q | q
    · exact (h.da k hk).1 q
    · have := h.at'.lt k hk
      omega
  · rcases hf k hk with q | q
    · exact h.dw k q
    · intro e
      have := h.by'.lt
      simp only at e
      omega
/-- The map of the tokens turns. -/
theorem Ar4.setB (h : Ar4 w A T Fk Fa Fw last) {T' : List Tk} (hs : IMap V A.mb (T'.map Tk.pair)) (ho : Only [A.mb] w V) : Ar4 V A T' Fk Fa Fw last := by
  obtain ⟨a1, a2, a3, a4⟩ := h.ane
  exact ⟨(ho.block _ (lt_of_heap h.blk) (by simpa using a1)).trans h.blk, hs, h.kids.only ho fun k hk => by simpa using (h.dk k hk).2.2, h.at'.only ho fun k hk => by simpa using (h.da k hk).2, h.wit.only ho fun k hk => by simpa using h.dw k hk, h.dk, h.da, h.dw⟩
theorem ArIs.lt (h : ArIs w A T last) {k : Nat} (hk : A.foot k) : k < w.heap.size := h.r.lt hk
theorem ArIs.only {S : List Nat} (h : ArIs w A T last) (ho : Only S w V) (hS : ∀ k, A.foot k → k ∉ S) : ArIs V A T last := ⟨h.r.only ho hS, h.len, h.ids⟩
theorem ArIs.below (h : ArIs w A T last) (hb : Below w.heap.size w V) : ArIs V A T last := h.only (S := []) (Only.of_below hb []) (by simp)
end
theorem cells5 {w : World} {b : Nat} {x y z u v : Value} {t : TypeId} (h : w.heap[b]? = some (.cells #[x, y, z, u, v] t (0, 0))) :
    w.cell? ⟨b, 0, none⟩ = some x ∧ w.cell? ⟨b, 1, none⟩ = some y ∧ w.cell? ⟨b, 2, none⟩ = some z ∧ w.cell? ⟨b, 3, none⟩ = some u ∧ w.cell? ⟨b, 4, none⟩ = some v ∧ w.frozen? ⟨b, 0, none⟩ = false := by
  simp [World.cell?, World.frozen?, h]

theorem ofG_mem {g : Tk → Option Int} {T : List Tk} {n i : Int} : i ∈ ofG g T n ↔ ∃ t ∈ T, g t = some n ∧ t.id = i := by
  unfold ofG
  rw [List.mem_map]
  constructor
  · rintro ⟨t, ht, rfl⟩
    obtain ⟨h1, h2⟩ := List.mem_filter.1 ht
    exact ⟨t, h1, by simpa using h2, rfl⟩
  · rintro ⟨t, h1, h2, rfl⟩
    exact ⟨t, List.mem_filter.2 ⟨h1, by simpa using h2⟩, rfl⟩
theorem ofG_len (g : Tk → Option Int) (T : List Tk) (n : Int) : (ofG g T n).length ≤ T.length := by
  unfold ofG
  rw [List.length_map]
  exact List.length_filter_le _ _
theorem ofG_asc {g : Tk → Option Int} {T : List Tk} (h : (T.map Tk.id).Pairwise (· < ·)) (n : Int) : (ofG g T n).Pairwise (· < ·) := by
  unfold ofG
  exact h.sublist (List.filter_sublist.map _)
theorem wf_id {i : Int} (h1 : 0 ≤ i) (h2 : i ≤ 1000) : (Lit.int .i64 i).wf = true := by
  have e1 : IntKind.i64.min = -9223372036854775808 := by decide
  have e2 : IntKind.i64.max = 9223372036854775807 := by decide
  simp only [Lit.wf, e1, e2, Bool.and_eq_true, decide_eq_true_eq]
  omega
theorem ArIs.wf {w : World} {A : Ar} {T : List Tk} {last : Int} (h : ArIs w A T last) (g : Tk → Option Int) (n : Int) : ∀ i ∈ ofG g T n, (Lit.int .i64 i).wf = true := fun i hi => by
  obtain ⟨t, ht, _, rfl⟩ := ofG_mem.1 hi
  exact wf_id (h.ids t ht).1 (h.ids t ht).2
theorem rise_of {g : Tk → Option Int} {T : List Tk} (h : (T.map Tk.id).Pairwise (· < ·)) (n : Int) : rise (ofG g T n) = ofG g T n := rise_self (ofG_asc h n)

section
variable {w : World} {A : Ar} {T : List Tk} {last : Int}
set_option maxRecDepth 100000 in
theorem tkids_any (h : ArIs w A T last) (hT : (T.map Tk.id).Pairwise (· < ·)) (n : Int) :
    Calls Try.prog 20 #[.pointer (some ⟨A.a, 0, none⟩), .int .i64 n] w fun e w' => ∃ v, e = .returned v ∧ w'.ownsRow w.heap.size 3 1 v (ofG kG T n).length ((ofG kG T n).map (.int .i64)) ∧ Below w.heap.size w w' := by
  obtain ⟨c0, c1, c2, c3, c4, _⟩ := cells5 h.r.blk
  have hr := rising_any A.mki A.Kk (ofG kG T) n w h.r.kids (h.wf kG n) (by have := ofG_len kG T n; have := h.len; omega)
  rw [rise_of hT] at hr
  have Hr := hide hr
  clear h hr c0 c1 c3 c4
  go_enter Try.func20, Try.ntmps20
  go_wp2_with fail
  (with_reducible refine Hr.out.mono ?_)
  rintro e V ⟨v, rfl, h1, h2⟩
  obtain ⟨va, vc, rfl⟩ := row_form h1
  have HF := hide (And.intro h1 h2)
  clear h1 h2 Hr
  go_wp2
  go_ret
  exact ⟨_, rfl, HF.out.1, HF.out.2⟩
set_option maxRecDepth 100000 in
theorem tat_any (h : ArIs w A T last) (hT : (T.map Tk.id).Pairwise (· < ·)) (n : Int) :
    Calls Try.prog 22 #[.pointer (some ⟨A.a, 0, none⟩), .int .i64 n] w fun e w' => ∃ v, e = .returned v ∧ w'.ownsRow w.heap.size 3 1 v (ofG aG T n).length ((ofG aG T n).map (.int .i64)) ∧ Below w.heap.size w w' := by
  obtain ⟨c0, c1, c2, c3, c4, _⟩ := cells5 h.r.blk
  have hr := rising_any A.ma A.Ka (ofG aG T) n w h.r.at' (h.wf aG n) (by have := ofG_len aG T n; have := h.len; omega)
  rw [rise_of hT] at hr
  have Hr := hide hr
  clear h hr c0 c1 c2 c4
  go_enter Try.func22, Try.ntmps22
  go_wp2_with fail
  (with_reducible refine Hr.out.mono ?_)
  rintro e V ⟨v, rfl, h1, h2⟩
  obtain ⟨va, vc, rfl⟩ := row_form h1
  have HF := hide (And.intro h1 h2)
  clear h1 h2 Hr
  go_wp2
  go_ret
  exact ⟨_, rfl, HF.out.1, HF.out.2⟩
set_option maxRecDepth 100000 in
theorem twith_any (h : ArIs w A T last) (hT : (T.map Tk.id).Pairwise (· < ·)) (n : Int) :
    Calls Try.prog 23 #[.pointer (some ⟨A.a, 0, none⟩), .int .i64 n] w fun e w' => ∃ v, e = .returned v ∧ w'.ownsRow w.heap.size 3 1 v (ofG wG T n).length ((ofG wG T n).map (.int .i64)) ∧ Below w.heap.size w w' := by
  obtain ⟨c0, c1, c2, c3, c4, _⟩ := cells5 h.r.blk
  have hr := rising_any A.mw A.Kw (ofG wG T) n w h.r.wit (h.wf wG n) (by have := ofG_len wG T n; have := h.len; omega)
  rw [rise_of hT] at hr
  have Hr := hide hr
  clear h hr c0 c1 c2 c3
  go_enter Try.func23, Try.ntmps23
  go_wp2_with fail
  (with_reducible refine Hr.out.mono ?_)
  rintro e V ⟨v, rfl, h1, h2⟩
  obtain ⟨va, vc, rfl⟩ := row_form h1
  have HF := hide (And.intro h1 h2)
  clear h1 h2 Hr
  go_wp2
  go_ret
  exact ⟨_, rfl, HF.out.1, HF.out.2⟩
set_option maxRecDepth 100000 in
theorem tlen_any (h : ArIs w A T last) :
    Calls Try.prog 19 #[.pointer (some ⟨A.a, 0, none⟩)] w fun e w' => e = .returned (.int .i64 (T.length : Int)) ∧ w = w' := by
  obtain ⟨c0, c1, c2, c3, c4, _⟩ := cells5 h.r.blk
  have hln := run_len_map (P := Try.prog) (t := 76) Try.underlying76 h.r.by'
  rw [List.length_map] at hln
  clear h c0 c2 c3 c4
  go_enter Try.func19, Try.ntmps19
  go_wp2
  go_ret
  exact ⟨rfl, rfl⟩

/-- The token of a number. -/
def getT (T : List Tk) (n : Int) : Option Tk := T.find? fun t => t.id == n
theorem look_T (T : List Tk) (n : Int) : look (T.map Tk.pair) n = (getT T n).map Tk.val := by
  induction T with
  | nil => rfl
  | cons p T ih =>
    unfold look getT at ih ⊢
    simp only [List.map_cons, List.find?_cons, Tk.pair]
    cases p.id == n with
    | true => rfl
    | false => exact ih
theorem zero_tk (w : World) : (zeroValue 32).run Try.prog w = .ok (.agg #[.int .i64 0, .int .i64 0, .int .i64 0, .int .i64 0]) w := by kernel_rfl
def noTk : Tk := ⟨0, 0, 0, 0⟩

set_option maxRecDepth 100000 in
theorem tget_any (h : ArIs w A T last) (n : Int) :
    Calls Try.prog 14 #[.pointer (some ⟨A.a, 0, none⟩), .int .i64 n] w fun e w' => e = .returned (.tuple #[((getT T n).getD noTk).val, .bool (getT T n).isSome]) ∧ Below w.heap.size w w' := by
  obtain ⟨c0, c1, c2, c3, c4, _⟩ := cells5 h.r.blk
  have hbA := lt_of_heap h.r.blk
  have hl := run_lookup (P := Try.prog) (t := 76) Try.underlying76 Try.underlying3 (h.r.by'.only ((Only.refl [] w).alloc (.cells #[.int .i64 0, .int .i64 0, .int .i64 0, .int .i64 0] 32)) (by simp)) (zero_tk _) n
  rw [look_T] at hl
  obtain ⟨t, ok, ht, hok⟩ : ∃ (t : Tk) (ok : Bool), (getT T n).getD noTk = t ∧ (getT T n).isSome = ok := ⟨_, _, rfl, rfl⟩
  have hl2 : looked (.agg #[.int .i64 0, .int .i64 0, .int .i64 0, .int .i64 0]) ((getT T n).map Tk.val) = .tuple #[t.val, .bool ok] := by
    rw [← ht, ← hok]
    cases getT T n <;> rfl
  rw [hl2] at hl
  rw [ht, hok]
  clear h ht hok hl2 c0 c2 c3 c4
  obtain ⟨t0, t1, t2, t3⟩ := t
  simp only [Tk.val] at hl ⊢
  go_enter Try.func14, Try.ntmps14
  go_wp2
  refine bodyPost_ret (v := .tuple #[.agg #[.int .i64 t0, .int .i64 t1, .int .i64 t2, .int .i64 t3], .bool ok]) (by simp [results, Try.results14, go_sem, *]) rfl ?_
  refine ⟨rfl, ?_⟩
  repeat (first | exact (((Only.refl [] w).alloc _).alloc _).below | refine Below.setCell ?_ (Nat.le_refl _) _)
end
end Go.Proofs.Ytmcajoccfbebiaa
