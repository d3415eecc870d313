/- Sets of tokens by a number: how they lie in memory; add, drop. -/
import Derived.Test.YtmcajoccfbebiaaNis
import Derived.Test.YtmcajoccfbebiaaRowK
import Derived.RegionTactic
import Derived.BigQuiet
import Derived.Deep.QuietTactic
import Derived.Deep.RegionHeld3
import Derived.Deep.RegionLaw
namespace Go.Proofs.Ytmcajoccfbebiaa
open Go Go.RowKit Go.MapKept Go.Sort

def idp (l : List Int) : List (Int × Value) := l.map fun i => (i, Value.int .i64 i)
/-- The block of a number. -/
def getK (K : List (Int × Nat)) (n : Int) : Option Nat := (K.find? fun p => p.1 == n).map (·.2)
def mpK (K : List (Int × Nat)) : List (Int × Value) := K.map fun p => (p.1, Value.map (some p.2))
def blks (ms : Nat) (K : List (Int × Nat)) : List Nat := ms :: K.map (·.2)

/-- Map block ms: sets by a number, each number's block in K; F: what they have. -/
structure SetsIs (w : World) (ms : Nat) (K : List (Int × Nat)) (F : Int → List Int) : Prop where
  map : IMap w ms (mpK K)
  nodup : (K.map (·.2)).Nodup
  ne : ∀ p ∈ K, p.2 ≠ ms
  yes : ∀ n b, getK K n = some b → IMap w b (idp (F n))
  no : ∀ n, getK K n = none → F n = []

theorem look_K (K : List (Int × Nat)) (n : Int) : look (mpK K) n = (getK K n).map fun b => Value.map (some b) := by
  induction K with
  | nil => rfl
  | cons p K ih =>
    unfold look getK mpK at ih ⊢
    simp only [List.map_cons, List.find?_cons]
    cases p.1 == n with
    | true => rfl
    | false => exact ih
theorem put_new {l : List (Int × Value)} {k : Int} (v : Value) (h : look l k = none) : put l k v = l ++ [(k, v)] := by
  induction l with
  | nil => rfl
  | cons p l ih =>
    unfold look at h ih
    simp only [List.find?_cons] at h
    unfold put
    by_cases hk : p.1 = k
    · simp [hk] at h
    · have hb : (p.1 == k) = false := by simpa using hk
      simp only [hb] at h
      rw [if_neg hk, ih h]
      rfl
theorem look_idp {l : List Int} {k : Int} (h : k ∉ l) : look (idp l) k = none := by
  unfold look idp
  rw [List.find?_eq_none.2]
  · rfl
  · intro p hp
    obtain ⟨i, hi, rfl⟩ := List.mem_map.1 hp
    simp only [beq_iff_eq]
    rintro rfl
    exact h hi
theorem put_idp {l : List Int} {k : Int} (h : k ∉ l) : put (idp l) k (.int .i64 k) = idp (l ++ [k]) := by
  rw [put_new _ (look_idp h)]
  simp [idp]
theorem drop_idp (l : List Int) (k : Int) : Go.Proofs.Ytmcajoccfbebiaa.drop (idp l) k = idp (l.filter fun i => i != k) := by
  unfold Go.Proofs.Ytmcajoccfbebiaa.drop idp
  rw [List.filter_map]
  rfl
theorem drop_K (K : List (Int × Nat)) (n : Int) : Go.Proofs.Ytmcajoccfbebiaa.drop (mpK K) n = mpK (K.filter fun p => p.1 != n) := by
  unfold Go.Proofs.Ytmcajoccfbebiaa.drop mpK
  rw [List.filter_map]
  rfl
theorem getK_mem {K : List (Int × Nat)} {n : Int} {b : Nat} (h : getK K n = some b) : (n, b) ∈ K := by
  unfold getK at h
  obtain ⟨p, hp, rfl⟩ := Option.map_eq_some_iff.1 h
  have h1 := List.mem_of_find?_eq_some hp
  have h2 : p.1 = n := by simpa using List.find?_some hp
  rw [← h2]
  exact h1
theorem getK_blk {K : List (Int × Nat)} {n : Int} {b : Nat} (h : getK K n = some b) : b ∈ K.map (·.2) := List.mem_map.2 ⟨_, getK_mem h, rfl⟩
theorem snd_inj : ∀ {K : List (Int × Nat)}, (K.map (·.2)).Nodup → ∀ {n m : Int} {b : Nat}, (n, b) ∈ K → (m, b) ∈ K → n = m
  | [], _, _, _, _, h, _ => by simp at h
  | p :: K, hn, n, m, b, h1, h2 => by
    simp only [List.map_cons, List.nodup_cons] at hn
    rcases List.mem_cons.1 h1 with e | h1
    · rcases List.mem_cons.1 h2 with e2 | h2
      · rw [← e] at e2
        exact (congrArg Prod.fst e2).symm
      · exact absurd (List.mem_map.2 ⟨_, h2, by rw [← e]⟩) hn.1
    · rcases List.mem_cons.1 h2 with e2 | h2
      · exact absurd (List.mem_map.2 ⟨_, h1, by rw [← e2]⟩) hn.1
      · exact snd_inj hn.2 h1 h2
theorem getK_snoc (K : List (Int × Nat)) (n m : Int) (b : Nat) (h : getK K n = none) : getK (K ++ [(n, b)]) m = if m = n then some b else getK K m := by
  unfold getK at h ⊢
  rw [List.find?_append]
  by_cases hm : m = n
  · subst hm
    rw [if_pos rfl, Option.map_eq_none_iff.1 h]
    simp
  · have hb : (n == m) = false := by simpa using fun e => hm e.symm
    rw [if_neg hm]
    simp [hb]
theorem getK_filter (K : List (Int × Nat)) (n m : Int) : getK (K.filter fun p => p.1 != n) m = if m = n then none else getK K m := by
  unfold getK
  rw [List.find?_filter]
  by_cases hm : m = n
  · subst hm
    rw [if_pos rfl, List.find?_eq_none.2]
    · rfl
    · intro p _
      simp
  · rw [if_neg hm]
    congr 1
    congr 1
    funext p
    by_cases hp : p.1 = m
    · have : p.1 ≠ n := by rw [hp]; exact hm
      simp [hp, hm]
    · simp [hp]

theorem SetsIs.lt {w : World} {ms : Nat} {K : List (Int × Nat)} {F : Int → List Int} (h : SetsIs w ms K F) : ∀ k ∈ blks ms K, k < w.heap.size := by
  intro k hk
  rcases List.mem_cons.1 hk with rfl | hk
  · exact h.map.lt
  · obtain ⟨p, hp, rfl⟩ := List.mem_map.1 hk
    have hnd := h.map.nodup
    have hg : getK K p.1 = some p.2 := by
      cases hc : getK K p.1 with
      | none =>
        unfold getK at hc
        have := List.find?_eq_none.1 (Option.map_eq_none_iff.1 hc) p hp
        simp at this
      | some b =>
        have hm := getK_mem hc
        have h1 : (K.map (·.1)).Nodup := by
          have e : (mpK K).map (·.1) = K.map (·.1) := by unfold mpK; rw [List.map_map]; rfl
          rwa [e] at hnd
        have : ∀ {L : List (Int × Nat)}, (L.map (·.1)).Nodup → ∀ {n : Int} {b c : Nat}, (n, b) ∈ L → (n, c) ∈ L → b = c := by
          intro L
          induction L with
          | nil => intro _ _ _ _ h; simp at h
          | cons q L ih =>
            intro hn n b c h1 h2
            simp only [List.map_cons, List.nodup_cons] at hn
            rcases List.mem_cons.1 h1 with e | h1
            · rcases List.mem_cons.1 h2 with e2 | h2
              · rw [← e] at e2
                exact (congrArg Prod.snd e2).symm
              · exact absurd (List.mem_map.2 ⟨_, h2, by rw [← e]⟩) hn.1
            · rcases List.mem_cons.1 h2 with e2 | h2
              · exact absurd (List.mem_map.2 ⟨_, h1, by rw [← e2]⟩) hn.1
              · exact ih hn.2 h1 h2
        rw [this h1 hm hp]
    exact (h.yes _ _ hg).lt
theorem SetsIs.only {w V : World} {ms : Nat} {K : List (Int × Nat)} {F : Int → List Int} {S : List Nat} (h : SetsIs w ms K F) (ho : Only S w V) (hS : ∀ k ∈ blks ms K, k ∉ S) : SetsIs V ms K F :=
  ⟨h.map.only ho (hS _ (.head _)), h.nodup, h.ne, fun n b hb => (h.yes n b hb).only ho (hS _ (.tail _ (getK_blk hb))), h.no⟩

theorem zero_ii (w : World) : (zeroValue 28).run Try.prog w = .ok (.map none) w := by kernel_rfl

set_option maxRecDepth 100000 in
set_option maxHeartbeats 1000000 in
theorem sadd_any (ms : Nat) (K : List (Int × Nat)) (F : Int → List Int) (n id : Int) (w : World) (h : SetsIs w ms K F) (hid : id ∉ F n) :
    Calls Try.prog 52 #[.map (some ms), .int .i64 n, .int .i64 id] w fun e w' => e = .returned (.tuple #[]) ∧ ∃ K', SetsIs w' ms K' (fun m => if m = n then F n ++ [id] else F m) ∧ Only (blks ms K) w w' ∧ ∀ k ∈ blks ms K', k ∈ blks ms K ∨ w.heap.size ≤ k := by
  have hl := run_lookup1 (P := Try.prog) (t := 78) Try.underlying78 Try.underlying3 h.map (zero_ii _) n
  rw [look_K] at hl
  cases hb : getK K n with
  | some b =>
    rw [hb] at hl
    simp only [Option.map_some, Option.getD_some] at hl
    have hm : ∀ w : World, (binOp .eql 28 (.map (some b)) (.map none)).run Try.prog w = .ok (.bool false) w := fun w => run_eql_map_nil w _ _ _ (some b) Try.underlying28
    obtain ⟨w1, hrun, hm1, ho1, hsz⟩ := run_mapUpdate (P := Try.prog) (t := 28) Try.underlying28 Try.underlying3 (h.yes n b hb) id (.int .i64 id)
    have hbne : b ≠ ms := h.ne _ (getK_mem hb)
    have HF : Hid (∃ K', SetsIs w1 ms K' (fun m => if m = n then F n ++ [id] else F m) ∧ Only (blks ms K) w w1 ∧ ∀ k ∈ blks ms K', k ∈ blks ms K ∨ w.heap.size ≤ k) := by
      refine ⟨K, ⟨h.map.only ho1 (by simpa using hbne.symm), h.nodup, h.ne, fun m c hc => ?_, fun m hc => ?_⟩, ho1.mono (fun k hk => by
        simp only [List.mem_singleton] at hk
        rw [hk]
        exact .tail _ (getK_blk hb)), fun k hk => .inl hk⟩
      · by_cases e : m = n
        · subst e
          rw [hb] at hc
          cases hc
          rw [if_pos rfl, ← put_idp hid]
          exact hm1
        · rw [if_neg e]
          exact (h.yes m c hc).only ho1 (by
            simp only [List.mem_singleton]
            rintro rfl
            exact e (snd_inj h.nodup (getK_mem hc) (getK_mem hb)))
      · by_cases e : m = n
        · subst e
          rw [hb] at hc
          cases hc
        · rw [if_neg e]
          exact h.no m hc
    clear h hid hb hm1 ho1 hsz hbne
    go_enter Try.func52, Try.ntmps52
    go_wp2
    go_end0
    exact ⟨rfl, HF.out⟩
  | none =>
    rw [hb] at hl
    simp only [Option.map_none, Option.getD_none] at hl
    have hm : ∀ w : World, (binOp .eql 28 (.map none) (.map none)).run Try.prog w = .ok (.bool true) w := fun w => run_eql_map_nil w _ _ _ none Try.underlying28
    have hmm := @run_makeMap Try.prog
    have hFn := h.no n hb
    obtain ⟨W, hW⟩ : ∃ W, w.alloc (.map #[] 0) = W := ⟨_, rfl⟩
    have hoW : Only [] w W := by rw [← hW]; exact (Only.refl [] w).alloc _
    have hzW : W.heap.size = w.heap.size + 1 := by rw [← hW]; simp
    have hnew : IMap W w.heap.size [] := by rw [← hW]; exact IMap.new w
    have hlt := h.lt
    have h1 := h.only hoW (by simp)
    obtain ⟨w2, hrun2, hm2, ho2, hsz2⟩ := run_mapUpdate (P := Try.prog) (t := 78) Try.underlying78 Try.underlying3 h1.map n (.map (some w.heap.size))
    rw [put_new _ (by rw [look_K, hb]; rfl)] at hm2
    have hm2' : IMap w2 ms (mpK (K ++ [(n, w.heap.size)])) := by
      have e : mpK (K ++ [(n, w.heap.size)]) = mpK K ++ [(n, .map (some w.heap.size))] := by simp [mpK]
      rw [e]
      exact hm2
    have hl2 := run_lookup1 (P := Try.prog) (t := 78) Try.underlying78 Try.underlying3 hm2' (zero_ii _) n
    rw [look_K, getK_snoc K n n _ hb, if_pos rfl] at hl2
    simp only [Option.map_some, Option.getD_some] at hl2
    have hmsne : w.heap.size ≠ ms := by
      have := hlt ms (.head _)
      omega
    obtain ⟨w3, hrun3, hm3, ho3, hsz3⟩ := run_mapUpdate (P := Try.prog) (t := 28) Try.underlying28 Try.underlying3 (hnew.only ho2 (by simpa using hmsne)) id (.int .i64 id)
    have HF : Hid (∃ K', SetsIs w3 ms K' (fun m => if m = n then F n ++ [id] else F m) ∧ Only (blks ms K) w w3 ∧ ∀ k ∈ blks ms K', k ∈ blks ms K ∨ w.heap.size ≤ k) := by
      refine ⟨K ++ [(n, w.heap.size)], ⟨hm2'.only ho3 (by simpa using hmsne.symm), ?_, ?_, fun m c hc => ?_, fun m hc => ?_⟩, ?_, ?_⟩
      · rw [List.map_append, List.nodup_append]
        refine ⟨h.nodup, by simp, fun a ha c hc => ?_⟩
        simp only [List.map_cons, List.map_nil, List.mem_singleton] at hc
        have := hlt a (.tail _ ha)
        omega
      · intro p hp
        rcases List.mem_append.1 hp with q | q
        · exact h.ne p q
        · rw [List.mem_singleton.1 q]
          exact hmsne
      · rw [getK_snoc K n m _ hb] at hc
        by_cases e : m = n
        · subst e
          rw [if_pos rfl] at hc ⊢
          cases hc
          rw [hFn]
          exact hm3
        · rw [if_neg e] at hc ⊢
          have hcl := hlt c (.tail _ (getK_blk hc))
          refine (((h1.yes m c hc).only ho2 ?_).only ho3 ?_)
          · simp only [List.mem_singleton]
            exact h.ne _ (getK_mem hc)
          · simp only [List.mem_singleton]
            omega
      · rw [getK_snoc K n m _ hb] at hc
        by_cases e : m = n
        · rw [if_pos e] at hc
          cases hc
        · rw [if_neg e] at hc ⊢
          exact h.no m hc
      · refine (((hoW.mono (by simp)).trans (ho2.mono (fun k hk => ?_))).step ho3 (fun k hk => ?_))
        · simp only [List.mem_singleton] at hk
          rw [hk]
          exact .head _
        · simp only [List.mem_singleton] at hk
          exact .inr (by omega)
      · intro k hk
        unfold blks at hk ⊢
        rw [List.map_append] at hk
        rcases List.mem_cons.1 hk with rfl | hk
        · exact .inl (.head _)
        · rcases List.mem_append.1 hk with q | q
          · exact .inl (.tail _ q)
          · simp only [List.map_cons, List.map_nil, List.mem_singleton] at q
            exact .inr (by omega)
    clear h hid hb hm2 hm2' ho2 hsz2 hm3 ho3 hsz3 hmsne h1 hlt hnew hzW hoW hFn
    subst hW
    go_enter Try.func52, Try.ntmps52
    go_wp2
    go_end0
    exact ⟨rfl, HF.out⟩

theorem run_delete_nil {P : Program} {t kt et : TypeId} (ht : P.underlying t = some (.map kt et)) (hk : P.underlying kt = some (.int .i64)) (w : World) (k : Int) (ty : TypeId) :
    (Builtin.delete_ #[t, kt] ty #[.map none, .int .i64 k]).run P w = .ok (.tuple #[]) w := by
  simp [Builtin.delete_, run_underlying ht, run_checkKey (k := .int .i64 k) hk rfl]
theorem run_len_nil {P : Program} {t kt et : TypeId} (ht : P.underlying t = some (.map kt et)) (w : World) (ty : TypeId) :
    (Builtin.len_ #[t] ty #[.map none]).run P w = .ok (.int .i64 0) w := by
  simp [Builtin.len_, run_underlying ht, goInt]

set_option maxRecDepth 100000 in
set_option maxHeartbeats 1000000 in
theorem sdrop_any (ms : Nat) (K : List (Int × Nat)) (F : Int → List Int) (n id : Int) (w : World) (h : SetsIs w ms K F) :
    Calls Try.prog 47 #[.map (some ms), .int .i64 n, .int .i64 id] w fun e w' => e = .returned (.tuple #[]) ∧ ∃ K', SetsIs w' ms K' (fun m => if m = n then (F n).filter (fun i => i != id) else F m) ∧ Only (blks ms K) w w' ∧ ∀ k ∈ blks ms K', k ∈ blks ms K := by
  have hl := run_lookup1 (P := Try.prog) (t := 78) Try.underlying78 Try.underlying3 h.map (zero_ii _) n
  rw [look_K] at hl
  have hsub : ∀ k ∈ blks ms (K.filter fun p => p.1 != n), k ∈ blks ms K := by
    intro k hk
    rcases List.mem_cons.1 hk with rfl | hk
    · exact .head _
    · obtain ⟨p, hp, rfl⟩ := List.mem_map.1 hk
      exact .tail _ (List.mem_map.2 ⟨p, (List.mem_filter.1 hp).1, rfl⟩)
  have hnd : ((K.filter fun p => p.1 != n).map (·.2)).Nodup := h.nodup.sublist (List.filter_sublist.map _)
  cases hb : getK K n with
  | none =>
    rw [hb] at hl
    simp only [Option.map_none, Option.getD_none] at hl
    have hdn := run_delete_nil (P := Try.prog) (t := 28) Try.underlying28 Try.underlying3 w id
    have hln := run_len_nil (P := Try.prog) (t := 28) Try.underlying28 w
    have hFn := h.no n hb
    obtain ⟨w2, hrun, hm2, ho2, hsz⟩ := run_delete (P := Try.prog) (t := 78) Try.underlying78 Try.underlying3 h.map n
    rw [drop_K] at hm2
    have HF : Hid (∃ K', SetsIs w2 ms K' (fun m => if m = n then (F n).filter (fun i => i != id) else F m) ∧ Only (blks ms K) w w2 ∧ ∀ k ∈ blks ms K', k ∈ blks ms K) := by
      refine ⟨_, ⟨hm2, hnd, fun p hp => h.ne p (List.mem_filter.1 hp).1, fun m c hc => ?_, fun m hc => ?_⟩, ho2.mono (fun k hk => by
        simp only [List.mem_singleton] at hk
        rw [hk]
        exact .head _), hsub⟩
      · rw [getK_filter] at hc
        by_cases e : m = n
        · rw [if_pos e] at hc
          cases hc
        · rw [if_neg e] at hc ⊢
          exact (h.yes m c hc).only ho2 (by simpa using h.ne _ (getK_mem hc))
      · rw [getK_filter] at hc
        by_cases e : m = n
        · rw [if_pos e, hFn]
          rfl
        · rw [if_neg e] at hc ⊢
          exact h.no m hc
    clear h hb hm2 ho2 hsz hsub hnd hFn
    go_enter Try.func47, Try.ntmps47
    go_wp2
    go_end0
    exact ⟨rfl, HF.out⟩
  | some b =>
    rw [hb] at hl
    simp only [Option.map_some, Option.getD_some] at hl
    have hbne : b ≠ ms := h.ne _ (getK_mem hb)
    obtain ⟨w1, hrun1, hm1, ho1, hsz1⟩ := run_delete (P := Try.prog) (t := 28) Try.underlying28 Try.underlying3 (h.yes n b hb) id
    rw [drop_idp] at hm1
    have hms1 := h.map.only ho1 (by simpa using hbne.symm)
    have hl2 := run_lookup1 (P := Try.prog) (t := 78) Try.underlying78 Try.underlying3 hms1 (zero_ii _) n
    rw [look_K, hb] at hl2
    simp only [Option.map_some, Option.getD_some] at hl2
    have hln := run_len_map (P := Try.prog) (t := 28) Try.underlying28 hm1
    rw [idp, List.length_map] at hln
    have hob : Only (blks ms K) w w1 := ho1.mono (fun k hk => by
      simp only [List.mem_singleton] at hk
      rw [hk]
      exact .tail _ (getK_blk hb))
    by_cases hz : ((F n).filter fun i => i != id).length = 0
    · have hz0 : ((F n).filter fun i => i != id) = [] := List.eq_nil_of_length_eq_zero hz
      obtain ⟨w2, hrun, hm2, ho2, hsz⟩ := run_delete (P := Try.prog) (t := 78) Try.underlying78 Try.underlying3 hms1 n
      rw [drop_K] at hm2
      rw [hz] at hln
      have HF : Hid (∃ K', SetsIs w2 ms K' (fun m => if m = n then (F n).filter (fun i => i != id) else F m) ∧ Only (blks ms K) w w2 ∧ ∀ k ∈ blks ms K', k ∈ blks ms K) := by
        refine ⟨_, ⟨hm2, hnd, fun p hp => h.ne p (List.mem_filter.1 hp).1, fun m c hc => ?_, fun m hc => ?_⟩, hob.trans (ho2.mono (fun k hk => by
          simp only [List.mem_singleton] at hk
          rw [hk]
          exact .head _)), hsub⟩
        · rw [getK_filter] at hc
          by_cases e : m = n
          · rw [if_pos e] at hc
            cases hc
          · rw [if_neg e] at hc ⊢
            refine ((h.yes m c hc).only ho1 ?_).only ho2 ?_
            · simp only [List.mem_singleton]
              rintro rfl
              exact e (snd_inj h.nodup (getK_mem hc) (getK_mem hb))
            · simpa using h.ne _ (getK_mem hc)
        · rw [getK_filter] at hc
          by_cases e : m = n
          · rw [if_pos e]
            exact hz0
          · rw [if_neg e] at hc ⊢
            exact h.no m hc
      clear h hb hm1 ho1 hsz1 hm2 ho2 hsz hsub hnd hz hz0 hbne hms1 hob
      go_enter Try.func47, Try.ntmps47
      go_wp2
      go_end0
      exact ⟨rfl, HF.out⟩
    · obtain ⟨q, hq⟩ : ∃ q, ((F n).filter fun i => i != id).length = q := ⟨_, rfl⟩
      rw [hq] at hln hz
      have hz1 : ((q : Int) == 0) = false := by simpa using hz
      have HF : Hid (∃ K', SetsIs w1 ms K' (fun m => if m = n then (F n).filter (fun i => i != id) else F m) ∧ Only (blks ms K) w w1 ∧ ∀ k ∈ blks ms K', k ∈ blks ms K) := by
        refine ⟨K, ⟨hms1, h.nodup, h.ne, fun m c hc => ?_, fun m hc => ?_⟩, hob, fun k hk => hk⟩
        · by_cases e : m = n
          · subst e
            rw [hb] at hc
            cases hc
            rw [if_pos rfl]
            exact hm1
          · rw [if_neg e]
            exact (h.yes m c hc).only ho1 (by
              simp only [List.mem_singleton]
              rintro rfl
              exact e (snd_inj h.nodup (getK_mem hc) (getK_mem hb)))
        · by_cases e : m = n
          · subst e
            rw [hb] at hc
            cases hc
          · rw [if_neg e]
            exact h.no m hc
      clear h hb hm1 ho1 hsz1 hsub hnd hz hbne hms1 hob hq
      go_enter Try.func47, Try.ntmps47
      go_wp2
      go_end0
      exact ⟨rfl, HF.out⟩
end Go.Proofs.Ytmcajoccfbebiaa
