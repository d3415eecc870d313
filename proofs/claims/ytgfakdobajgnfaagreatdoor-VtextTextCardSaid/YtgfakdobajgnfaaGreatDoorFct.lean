/- Regions that draw their order and hold several operations that make memory: one proof for each operation, whatever order is drawn. No program is named. -/
import Derived.Deep.RegionHeld3
import Derived.Below
namespace Go.Proofs.YtgfakdobajgnfaaGreatDoor
open Go Go.RowKit

/-- Some operations are marked as carried out, or not. -/
def setAll : Array Bool → List Nat → List Bool → Array Bool
  | L, i :: ms, b :: d => setAll (L.setIfInBounds i b) ms d
  | L, _, _ => L
/-- Some slots are filled. -/
def putAll : Act → List (Option Nat) → List Value → Act
  | a, s :: ss, v :: u => putAll (a.put s v) ss u
  | a, _, _ => a
/-- All ways in which some may have come up. -/
def allB : Nat → List (List Bool)
  | 0 => [[]]
  | k + 1 => (allB k).flatMap fun d => [false :: d, true :: d]
theorem mem_allB : ∀ {d : List Bool}, d ∈ allB d.length
  | [] => List.mem_singleton.2 rfl
  | b :: d => by
    refine List.mem_flatMap.2 ⟨d, mem_allB, ?_⟩
    cases b <;> simp
/-- Of those that are taken first, one that may come up. -/
def pureAt (dep : List (List Nat)) (pu : List Bool) (n : Nat) (d : List Bool) : Option Nat :=
  (List.range n).find? fun j => pu.getD j false && !(d.getD j true) && (dep.getD j []).all fun l => d.getD l false
/-- Whatever may come up is one of them, its own ones have come up ahead; none may come up where all have. -/
def factOk (md : Region.Mode) (ops : Array Oper) (L : Array Bool) (ms : List Nat) (dep : List (List Nat)) (pu : List Bool) : Bool :=
  Region.noSelect ops && (allB ms.length).all fun d => d.all id || match pureAt dep pu ms.length d with
    | some j => Region.free md ops (setAll L ms d) (ms.getD j 0) && (Region.ready md ops (setAll L ms d)).contains (ms.getD j 0)
    | none => ((Region.ready md ops (setAll L ms d)).all fun i => ms.zipIdx.any fun p => p.1 == i && !(d.getD p.2 true) && !(pu.getD p.2 false) && (dep.getD p.2 []).all fun l => d.getD l false) && !(Region.ready md ops (setAll L ms d)).isEmpty
theorem setAll_set : ∀ (ms : List Nat) (L : Array Bool) (d : List Bool) (j i : Nat), ms.Nodup → ms[j]? = some i → d.length = ms.length → (setAll L ms d).setIfInBounds i true = setAll L ms (d.set j true)
  | [], _, _, _, _, _, h, _ => by simp at h
  | m :: ms, L, [], _, _, _, _, h => by simp at h
  | m :: ms, L, b :: d, 0, i, hn, h, hl => by
    simp at h
    subst h
    rw [List.set_cons_zero]
    show (setAll (L.setIfInBounds m b) ms d).setIfInBounds m true = setAll (L.setIfInBounds m true) ms d
    have key : ∀ (ms : List Nat) (L : Array Bool) (d : List Bool), m ∉ ms → (setAll L ms d).setIfInBounds m true = setAll (L.setIfInBounds m true) ms d := by
      intro ms
      induction ms with
      | nil => intro L d _; cases d <;> rfl
      | cons k ms ih =>
        intro L d hk
        cases d with
        | nil => rfl
        | cons c d =>
          show (setAll (L.setIfInBounds k c) ms d).setIfInBounds m true = setAll ((L.setIfInBounds m true).setIfInBounds k c) ms d
          rw [ih _ _ (fun q => hk (List.mem_cons_of_mem _ q)), Array.setIfInBounds_comm _ _ (fun q => hk (by rw [q]; exact List.mem_cons_self))]
    rw [key ms _ d (List.nodup_cons.1 hn).1]
    congr 1
    exact Array.setIfInBounds_setIfInBounds _
  | m :: ms, L, b :: d, j + 1, i, hn, h, hl => by
    rw [List.set_cons_succ]
    exact setAll_set ms _ d j i (List.nodup_cons.1 hn).2 (by simpa using h) (by simpa using hl)
theorem put_same (a : Act) (s : Option Nat) (v u : Value) : (a.put s v).put s u = a.put s u := by
  cases s with
  | none => rfl
  | some s =>
    unfold Act.put
    simp only
    rw [Array.setIfInBounds_setIfInBounds]
/-- No slot twice. -/
def apartS : List (Option Nat) → Bool
  | [] => true
  | none :: ss => apartS ss
  | some s :: ss => !(ss.contains (some s)) && apartS ss
theorem put_key (s : Option Nat) (v : Value) : ∀ (ss : List (Option Nat)) (a : Act) (u : List Value), (∀ m, s = some m → some m ∉ ss) → (putAll a ss u).put s v = putAll (a.put s v) ss u := by
  intro ss
  induction ss with
  | nil => intro a u _; cases u <;> rfl
  | cons k ss ih =>
    intro a u hk
    cases u with
    | nil => rfl
    | cons c u =>
      show (putAll (a.put k c) ss u).put s v = putAll ((a.put s v).put k c) ss u
      rw [ih _ _ (fun m e q => hk m e (List.mem_cons_of_mem _ q)), Act.put_comm a c v (fun d e q => hk d q (by rw [← e]; exact List.mem_cons_self))]
theorem putAll_set : ∀ (ss : List (Option Nat)) (a : Act) (u : List Value) (j : Nat) (s : Option Nat) (v : Value), apartS ss = true → ss[j]? = some s → u.length = ss.length → (putAll a ss u).put s v = putAll a ss (u.set j v)
  | [], _, _, _, _, _, _, h, _ => by simp at h
  | m :: ss, a, [], _, _, _, _, _, h => by simp at h
  | m :: ss, a, x :: u, 0, s, v, hn, h, hl => by
    simp at h
    subst h
    rw [List.set_cons_zero]
    show (putAll (a.put m x) ss u).put m v = putAll (a.put m v) ss u
    rw [put_key m v ss _ u ?_, put_same]
    rintro k rfl q
    simp [apartS, q] at hn
  | m :: ss, a, x :: u, j + 1, s, v, hn, h, hl => by
    rw [List.set_cons_succ]
    refine putAll_set ss _ u j s v ?_ (by simpa using h) (by simpa using hl)
    cases m with
    | none => exact hn
    | some m => simp only [apartS, Bool.and_eq_true] at hn; exact hn.2
theorem setAll_none : ∀ (ms : List Nat) (L : Array Bool), (ms.all fun i => !(L.getD i true)) = true → setAll L ms (ms.map fun _ => false) = L
  | [], _, _ => rfl
  | m :: ms, L, h => by
    rw [List.all_cons, Bool.and_eq_true] at h
    have e : L.setIfInBounds m false = L := by
      have h1 := h.1
      by_cases hm : m < L.size
      · simp [hm] at h1
        refine Array.ext (by simp) fun i q1 q2 => ?_
        rw [Array.getElem_setIfInBounds (by simpa using q1)]
        split
        · next e => subst e; exact h1.symm
        · rfl
      · simp [hm] at h1
    show setAll (L.setIfInBounds m false) ms (ms.map fun _ => false) = L
    rw [e]
    exact setAll_none ms L h.2
/-- What stands in some slots. -/
def slotsOf (a : Act) (ss : List (Option Nat)) : List Value := ss.map fun s => match s with
  | some s => a.tmps.getD s undef
  | none => undef
theorem put_getD (a : Act) (s : Nat) : a.put (some s) (a.tmps.getD s undef) = a := by
  unfold Act.put
  simp only
  have : a.tmps.setIfInBounds s (a.tmps.getD s undef) = a.tmps := by
    by_cases hm : s < a.tmps.size
    · refine Array.ext (by simp) fun i q1 q2 => ?_
      rw [Array.getElem_setIfInBounds (by simpa using q1)]
      split
      · next e => subst e; simp
      · rfl
    · rw [Array.setIfInBounds_eq_of_size_le (by omega)]
  rw [this]
theorem putAll_slots : ∀ (ss : List (Option Nat)) (a : Act), putAll a ss (slotsOf a ss) = a
  | [], _ => rfl
  | none :: ss, a => putAll_slots ss a
  | some s :: ss, a => by
    show putAll (a.put (some s) (a.tmps.getD s undef)) ss (slotsOf a ss) = a
    rw [put_getD]
    exact putAll_slots ss a
section
variable {P : Program} {ops : Array Oper} {Q : Exit → Act → World → Prop} {md : Region.Mode} {S : World → Prop}
/-- One operation: where its own ones have come up, it keeps what is to be kept, in whatever order the others come. -/
def OneI (P : Program) (ops : Array Oper) (Q : Exit → Act → World → Prop) (Inv : List Bool → List Value → World → Prop) (a : Act) (ms : List Nat) (ss : List (Option Nat)) (dep : List (List Nat)) (j : Nat) : Prop :=
  ∀ (d : List Bool) (u : List Value) (w : World), d.length = ms.length → u.length = ms.length → d[j]? = some false → ((dep.getD j []).all fun l => d.getD l false) = true → Inv d u w → ∀ i s, ms[j]? = some i → ss[j]? = some s →
    wpOp P ops Q i (fun a' w' => ∃ v, a' = (putAll a ss u).put s v ∧ Inv (d.set j true) (u.set j v) w') (putAll a ss u) w
/-- One operation that is taken first: it yields its value in every world that meets S. -/
def OneP (P : Program) (ops : Array Oper) (S : World → Prop) (Inv : List Bool → List Value → World → Prop) (a : Act) (ms : List Nat) (ss : List (Option Nat)) (dep : List (List Nat)) (j : Nat) : Prop :=
  ∀ (d : List Bool) (u : List Value) (w : World), d.length = ms.length → u.length = ms.length → d[j]? = some false → ((dep.getD j []).all fun l => d.getD l false) = true → Inv d u w → ∀ i s, ms[j]? = some i → ss[j]? = some s →
    ∃ o v, ops[i]? = some o ∧ o.dst = s ∧ YieldsIf P ops S o v (putAll a ss u) ∧ Inv (d.set j true) (u.set j v) w
theorem pureAt_some {dep : List (List Nat)} {pu : List Bool} {n : Nat} {d : List Bool} {j : Nat} (h : pureAt dep pu n d = some j) : j < n ∧ pu.getD j false = true ∧ d.getD j true = false ∧ ((dep.getD j []).all fun l => d.getD l false) = true := by
  have h1 := List.find?_some h
  have h2 := List.mem_of_find?_eq_some h
  simp only [Bool.and_eq_true, Bool.not_eq_true'] at h1
  exact ⟨List.mem_range.1 h2, h1.1.1, h1.1.2, h1.2⟩
theorem count_set : ∀ (d : List Bool) (j : Nat), d[j]? = some false → (d.set j true).count false + 1 = d.count false := by
  intro d
  induction d with
  | nil => intro j h; simp at h
  | cons b d ih =>
    intro j h
    cases j with
    | zero => simp at h; subst h; simp
    | succ j =>
      have := ih j (by simpa using h)
      rw [List.set_cons_succ, List.count_cons, List.count_cons]
      omega
theorem at_false {d : List Bool} {j : Nat} (hlt : j < d.length) (hd : d.getD j true = false) : d[j]? = some false := by
  rw [List.getD_eq_getElem?_getD, List.getElem?_eq_getElem hlt] at hd
  rw [List.getElem?_eq_getElem hlt]
  simpa using hd
theorem wpAnyH_inv {Inv : List Bool → List Value → World → Prop} {L : Array Bool} {a : Act} (ms : List Nat) (ss : List (Option Nat)) (dep : List (List Nat)) (pu : List Bool) {m : Nat} (hok : factOk md ops L ms dep pu = true) (hn : ms.Nodup) (hns : apartS ss = true) (hls : ss.length = ms.length)
    (hQ : ∀ s v c a w, Q (.panic c) (a.put s v) w → Q (.panic c) a w)
    (hS : ∀ d u w, Inv d u w → S w) (hop : ∀ j, j < ms.length → if pu.getD j false = true then OneP P ops S Inv a ms ss dep j else OneI P ops Q Inv a ms ss dep j)
    (hend : ∀ (u : List Value) (w : World), u.length = ms.length → Inv (ms.map fun _ => true) u w → wpAnyH P md ops Q S m (setAll L ms (ms.map fun _ => true)) (putAll a ss u) w) :
    ∀ (c : Nat) (d : List Bool) (u : List Value) (w : World), d.length = ms.length → u.length = ms.length → d.count false = c → Inv d u w → wpAnyH P md ops Q S (m + c) (setAll L ms d) (putAll a ss u) w
  | 0, d, u, w, h1, h2, hc, hF => by
    have : d = ms.map fun _ => true := by
      refine List.ext_getElem (by simp [h1]) fun i q1 q2 => ?_
      simp only [List.getElem_map]
      cases e : d[i] with
      | true => rfl
      | false =>
        have := List.count_pos_iff.2 (e ▸ List.getElem_mem q1)
        omega
    subst this
    exact hend u w h2 hF
  | c + 1, d, u, w, h1, h2, hc, hF => by
    have hok' := hok
    unfold factOk at hok'
    rw [Bool.and_eq_true] at hok'
    obtain ⟨hsel, hok'⟩ := hok'
    have hk := List.all_eq_true.1 hok' d (by rw [← h1]; exact mem_allB)
    have hnall : d.all id = false := by
      cases e : d.all id with
      | false => rfl
      | true =>
        exfalso
        have : false ∈ d := List.count_pos_iff.1 (by omega)
        have := List.all_eq_true.1 e _ this
        cases this
    rw [hnall, Bool.false_or] at hk
    cases hp : pureAt dep pu ms.length d with
    | some j =>
      rw [hp] at hk
      simp only [Bool.and_eq_true] at hk
      obtain ⟨hfr, hrd⟩ := hk
      obtain ⟨hj, hpu, hdj, hdep⟩ := pureAt_some hp
      have hjm : ms[j]? = some ms[j] := List.getElem?_eq_getElem _
      have hjs : ss[j]? = some (ss[j]'(by omega)) := List.getElem?_eq_getElem _
      have e : ms.getD j 0 = ms[j] := by simp [List.getD_eq_getElem?_getD, hj]
      rw [e] at hfr hrd
      have hq := hop j hj
      rw [if_pos hpu] at hq
      obtain ⟨o, v, ho, hds, hy, hI⟩ := hq d u w h1 h2 (at_false (by omega) hdj) hdep hF _ _ hjm hjs
      refine wpAnyH_take (fuel := m + c) ho hsel hfr hrd (hQ _ _) hy (hS _ _ _ hF) ?_
      rw [hds, setAll_set ms L d j _ hn hjm h1, putAll_set ss a u j _ v hns hjs (by omega)]
      exact wpAnyH_inv ms ss dep pu hok hn hns hls hQ hS hop hend c (d.set j true) (u.set j v) w (by simpa using h1) (by simpa using h2) (by have := count_set d j (at_false (by omega) hdj); omega) hI
    | none =>
      rw [hp] at hk
      simp only [Bool.and_eq_true] at hk
      obtain ⟨hk1, hk2⟩ := hk
      rw [show m + (c + 1) = (m + c) + 1 by omega]
      refine ⟨fun h0 => by rw [h0] at hk2; simp at hk2, fun i hi => ?_⟩
      have hi' := List.all_eq_true.1 hk1 i hi
      obtain ⟨p, hp, hq⟩ := List.any_eq_true.1 hi'
      obtain ⟨x, j⟩ := p
      rw [List.mem_zipIdx_iff_getElem?] at hp
      simp only [Bool.and_eq_true, beq_iff_eq, Bool.not_eq_true'] at hq
      obtain ⟨⟨⟨rfl, hd⟩, hpu⟩, hdep⟩ := hq
      simp only at hp
      have hj : j < ms.length := (List.getElem?_eq_some_iff.1 hp).1
      have hjs : ss[j]? = some (ss[j]'(by omega)) := List.getElem?_eq_getElem _
      have hdj : d[j]? = some false := at_false (by omega) hd
      have ho := hop j hj
      rw [if_neg (by rw [hpu]; simp)] at ho
      refine wpOp_mono ?_ (ho d u w h1 h2 hdj hdep hF x _ hp hjs)
      rintro a' w' ⟨v, rfl, hv⟩
      refine ⟨hS _ _ _ hv, ?_⟩
      rw [setAll_set ms L d j x hn hp h1, putAll_set ss a u j _ v hns hjs (by omega)]
      exact wpAnyH_inv ms ss dep pu hok hn hns hls hQ hS hop hend c (d.set j true) (u.set j v) w' (by simpa using h1) (by simpa using h2) (by have := count_set d j hdj; omega) hv
/-- From a state in which none of them has come up. -/
theorem wpAnyH_facts {Inv : List Bool → List Value → World → Prop} {listed : Array Bool} {a : Act} {w : World} (k : Nat) (ms : List Nat) (ss : List (Option Nat)) (dep : List (List Nat)) (pu : List Bool) {m : Nat} (hok : factOk md ops listed ms dep pu = true)
    (hQ : ∀ s v c a w, Q (.panic c) (a.put s v) w → Q (.panic c) a w) (hsm : (decide (ms.Nodup) && apartS ss && decide (ss.length = ms.length) && decide (ms.length = k) && ms.all fun i => !(listed.getD i true)) = true)
    (hS : ∀ d u w, Inv d u w → S w) (h0 : Inv (ms.map fun _ => false) (slotsOf a ss) w) (hop : ∀ j, j < ms.length → if pu.getD j false = true then OneP P ops S Inv a ms ss dep j else OneI P ops Q Inv a ms ss dep j)
    (hend : ∀ (u : List Value) (w : World), u.length = ms.length → Inv (ms.map fun _ => true) u w → wpAnyH P md ops Q S m (setAll listed ms (ms.map fun _ => true)) (putAll a ss u) w) : wpAnyH P md ops Q S (m + k) listed a w := by
  simp only [Bool.and_eq_true, decide_eq_true_eq] at hsm
  obtain ⟨⟨⟨⟨h1, h2⟩, h3⟩, h4⟩, h5⟩ := hsm
  have hc : (ms.map fun _ => false).count false = k := by
    rw [← h4]
    clear h0 hop hend hok h1 h3 h4 h5
    induction ms with
    | nil => rfl
    | cons x ms ih => simp only [List.map_cons, List.count_cons_self, List.length_cons, ih]
  have := wpAnyH_inv (L := listed) (a := a) ms ss dep pu hok h1 h2 h3 hQ hS hop hend k (ms.map fun _ => false) (slotsOf a ss) w (by simp) (by simp [slotsOf, h3]) hc h0
  rwa [setAll_none ms listed h5, putAll_slots] at this
theorem OneI.mk {Inv : List Bool → List Value → World → Prop} {a : Act} {ms : List Nat} {ss : List (Option Nat)} {dep : List (List Nat)} {j : Nat} {i : Nat} {o : Oper} (hi : ms[j]? = some i) (ho : ops[i]? = some o) (hs : ss[j]? = some o.dst)
    (h : ∀ (d : List Bool) (u : List Value) (w : World), d.length = ms.length → u.length = ms.length → d[j]? = some false → ((dep.getD j []).all fun l => d.getD l false) = true → Inv d u w → ∀ K : Act → World → Prop, Shut (∀ v w', Inv (d.set j true) (u.set j v) w' → K ((putAll a ss u).put o.dst v) w') →
      if Region.wanted o (yielded ops (putAll a ss u).tmps) = true then Oper.wp P o (putAll a ss u) w K Q else K ((putAll a ss u).put o.dst undef) w) : OneI P ops Q Inv a ms ss dep j := by
  intro d u w h1 h2 h3 h4 h5 i' s hi' hs'
  rw [hi] at hi'
  rw [hs] at hs'
  injection hi' with hi'
  injection hs' with hs'
  subst hi' hs'
  refine wpOp_step ho fun K hK => h d u w h1 h2 h3 h4 h5 K fun v w' hv => ?_
  exact hK _ _ ⟨v, rfl, hv⟩
end
/-- What each one that has come up has left. -/
def AllF : List (Value → World → Prop) → List Bool → List Value → World → Prop
  | F :: Fs, b :: d, v :: u, w => (b = true → F v w) ∧ AllF Fs d u w
  | [], [], [], _ => True
  | _, _, _, _ => False
theorem AllF.mono {w w' : World} (hR : Below w.heap.size w w') : ∀ {Fs : List (Value → World → Prop)} {d : List Bool} {u : List Value}, (∀ F ∈ Fs, ∀ v w w', F v w → Below w.heap.size w w' → F v w') → AllF Fs d u w → AllF Fs d u w'
  | _ :: _, _ :: _, _ :: _, hm, h => ⟨fun hb => hm _ List.mem_cons_self _ _ _ (h.1 hb) hR, AllF.mono hR (fun F hF => hm F (List.mem_cons_of_mem _ hF)) h.2⟩
  | [], [], [], _, _ => trivial
theorem AllF.set {w : World} : ∀ {Fs : List (Value → World → Prop)} {d : List Bool} {u : List Value} {j : Nat} {F : Value → World → Prop} {v : Value}, AllF Fs d u w → Fs[j]? = some F → F v w → AllF Fs (d.set j true) (u.set j v) w
  | _ :: _, _ :: _, _ :: _, 0, F, v, h, hF, hv => by
    simp at hF
    subst hF
    exact ⟨fun _ => hv, h.2⟩
  | _ :: _, _ :: _, _ :: _, j + 1, F, v, h, hF, hv => ⟨h.1, AllF.set h.2 (by simpa using hF) hv⟩
  | [], [], [], j, F, v, h, hF, _ => by simp at hF
theorem AllF.none : ∀ (Fs : List (Value → World → Prop)) (u : List Value) (w : World), u.length = Fs.length → AllF Fs (Fs.map fun _ => false) u w
  | [], [], _, _ => trivial
  | _ :: Fs, _ :: u, w, h => ⟨fun e => (by cases e), AllF.none Fs u w (by simpa using h)⟩
  | [], _ :: _, _, h => by simp at h
  | _ :: _, [], _, h => by simp at h
/-- A box of one's own. -/
def Bx (B : Nat) (T : TypeId) (cs : Array Value) (x : Value) (w : World) : Prop := ∃ b, x = .pointer (some ⟨b, 0, none⟩) ∧ B ≤ b ∧ w.heap[b]? = some (.cells cs T (0, 0))
theorem lt_some {w : World} {b : Nat} {o : Obj} (h : w.heap[b]? = some o) : b < w.heap.size := by
  obtain ⟨h, _⟩ := Array.getElem?_eq_some_iff.1 h
  exact h
theorem Bx.below {B : Nat} {T : TypeId} {cs : Array Value} {x : Value} {w w' : World} (h : Bx B T cs x w) (hb : Below w.heap.size w w') : Bx B T cs x w' := by
  obtain ⟨b, h1, h2, h3⟩ := h
  exact ⟨b, h1, h2, (hb.block b (lt_some h3)).trans h3⟩
/-- The boxes that were made are different ones. -/
def Dst (bx : List Nat) (d : List Bool) (u : List Value) (w : World) : Prop :=
  (∀ i ∈ bx, d.getD i false = true → ∃ b, u.getD i undef = .pointer (some ⟨b, 0, none⟩) ∧ b < w.heap.size) ∧ ∀ i ∈ bx, ∀ j ∈ bx, i ≠ j → d.getD i false = true → d.getD j false = true → u.getD i undef ≠ u.getD j undef
def InvB (B : Nat) (w0 : World) (Fs : List (Value → World → Prop)) (bx : List Nat) (d : List Bool) (u : List Value) (w : World) : Prop := Below B w0 w ∧ w0.heap.size ≤ w.heap.size ∧ AllF Fs d u w ∧ Dst bx d u w
section
variable {P : Program} {ops : Array Oper} {Q : Exit → Act → World → Prop} {md : Region.Mode} {S : World → Prop}
theorem getD_set_same {α : Type} (l : List α) (j : Nat) (x z : α) (h : j < l.length) : (l.set j x).getD j z = x := by simp [List.getD_eq_getElem?_getD, h]
theorem getD_set_far {α : Type} (l : List α) (i j : Nat) (x z : α) (h : i ≠ j) : (l.set j x).getD i z = l.getD i z := by simp [List.getD_eq_getElem?_getD, Ne.symm h]
theorem OneB.mk {B : Nat} {w0 : World} {Fs : List (Value → World → Prop)} {bx : List Nat} {a : Act} {ms : List Nat} {ss : List (Option Nat)} {dep : List (List Nat)} {j : Nat} (i : Nat) (o : Oper) (F : Value → World → Prop) (hi : ms[j]? = some i) (ho : ops[i]? = some o) (hs : ss[j]? = some o.dst) (hF : Fs[j]? = some F)
    (hmono : ∀ F ∈ Fs, ∀ v w w', F v w → Below w.heap.size w w' → F v w') (hB : B ≤ w0.heap.size)
    (h : ∀ (d : List Bool) (u : List Value) (w : World), d.length = ms.length → u.length = ms.length → ((dep.getD j []).all fun l => d.getD l false) = true → AllF Fs d u w → Below B w0 w → w0.heap.size ≤ w.heap.size →
      ∀ K : Act → World → Prop, Shut (∀ v w', Below w.heap.size w w' → F v w' → (j ∈ bx → v = .pointer (some ⟨w.heap.size, 0, none⟩) ∧ w.heap.size < w'.heap.size) → K ((putAll a ss u).put o.dst v) w') →
      if Region.wanted o (yielded ops (putAll a ss u).tmps) = true then Oper.wp P o (putAll a ss u) w K Q else K ((putAll a ss u).put o.dst undef) w) : OneI P ops Q (InvB B w0 Fs bx) a ms ss dep j := by
  refine OneI.mk hi ho hs fun d u w h1 h2 h3 h4 h5 K hK => ?_
  obtain ⟨g1, g2, g3, g4, g5⟩ := h5
  refine h d u w h1 h2 h4 g3 g1 g2 K fun v w' hb hv hbx => hK v w' ⟨g1.trans (hb.mono (by omega)), Nat.le_trans g2 hb.size, (g3.mono hb hmono).set hF hv, ?_, ?_⟩
  · intro x hx hd
    by_cases e : x = j
    · subst e
      obtain ⟨e1, e2⟩ := hbx hx
      have hlt : x < u.length := by rw [h2]; exact (List.getElem?_eq_some_iff.1 hi).1
      rw [getD_set_same _ _ _ _ hlt]
      exact ⟨_, e1, e2⟩
    · rw [getD_set_far _ _ _ _ _ e] at hd ⊢
      obtain ⟨b, q1, q2⟩ := g4 x hx hd
      exact ⟨b, q1, Nat.lt_of_lt_of_le q2 hb.size⟩
  · intro x hx y hy hne hdx hdy
    have hlt : j < u.length := by rw [h2]; exact (List.getElem?_eq_some_iff.1 hi).1
    by_cases e : x = j
    · subst e
      rw [getD_set_far _ _ _ _ _ (Ne.symm hne)] at hdy ⊢
      rw [getD_set_same _ _ _ _ hlt]
      obtain ⟨e1, _⟩ := hbx hx
      obtain ⟨b, q1, q2⟩ := g4 y hy hdy
      rw [e1, q1]
      intro q
      injection q with q
      injection q with q
      injection q with q
      omega
    · by_cases e' : y = j
      · subst e'
        rw [getD_set_far _ _ _ _ _ e] at hdx ⊢
        rw [getD_set_same _ _ _ _ hlt]
        obtain ⟨e1, _⟩ := hbx hy
        obtain ⟨b, q1, q2⟩ := g4 x hx hdx
        rw [e1, q1]
        intro q
        injection q with q
        injection q with q
        injection q with q
        omega
      · rw [getD_set_far _ _ _ _ _ e] at hdx ⊢
        rw [getD_set_far _ _ _ _ _ e'] at hdy ⊢
        exact g5 x hx y hy hne hdx hdy
/-- A pure one: it has no box, and leaves the world. -/
theorem OneBP.mk {B : Nat} {w0 : World} {Fs : List (Value → World → Prop)} {bx : List Nat} {a : Act} {ms : List Nat} {ss : List (Option Nat)} {dep : List (List Nat)} {j : Nat} (i : Nat) (o : Oper) (F : Value → World → Prop) (hi : ms[j]? = some i) (ho : ops[i]? = some o) (hs : ss[j]? = some o.dst) (hF : Fs[j]? = some F) (hbx : bx.contains j = false)
    (h : ∀ (d : List Bool) (u : List Value) (w : World), d.length = ms.length → u.length = ms.length → ((dep.getD j []).all fun l => d.getD l false) = true → AllF Fs d u w → Below B w0 w → w0.heap.size ≤ w.heap.size →
      ∃ v, YieldsIf P ops S o v (putAll a ss u) ∧ F v w) : OneP P ops S (InvB B w0 Fs bx) a ms ss dep j := by
  intro d u w h1 h2 h3 h4 h5 i' s hi' hs'
  rw [hi] at hi'
  rw [hs] at hs'
  injection hi' with hi'
  injection hs' with hs'
  subst hi' hs'
  obtain ⟨g1, g2, g3, g4, g5⟩ := h5
  obtain ⟨v, hy, hv⟩ := h d u w h1 h2 h4 g3 g1 g2
  have hne : ∀ x ∈ bx, x ≠ j := fun x hx e => by
    subst e
    rw [List.contains_iff_mem.2 hx] at hbx
    cases hbx
  refine ⟨o, v, ho, rfl, hy, g1, g2, g3.set hF hv, fun x hx hd => ?_, fun x hx y hy hxy hdx hdy => ?_⟩
  · rw [getD_set_far _ _ _ _ _ (hne x hx)] at hd ⊢
    exact g4 x hx hd
  · rw [getD_set_far _ _ _ _ _ (hne x hx)] at hdx ⊢
    rw [getD_set_far _ _ _ _ _ (hne y hy)] at hdy ⊢
    exact g5 x hx y hy hxy hdx hdy
theorem InvB.start {B : Nat} {w0 : World} {Fs : List (Value → World → Prop)} {bx : List Nat} {ms : List Nat} {u : List Value} (h1 : ms.length = Fs.length) (h2 : u.length = Fs.length) : InvB B w0 Fs bx (ms.map fun _ => false) u w0 := by
  have e : (ms.map fun _ => false) = Fs.map fun _ => false := by
    refine List.ext_getElem (by simpa using h1) fun i q1 q2 => by simp
  refine ⟨Below.refl _ _, Nat.le_refl _, by rw [e]; exact AllF.none Fs u w0 h2, ?_, ?_⟩
  all_goals
    intro x hx
  · intro hd
    have : (ms.map fun _ => false).getD x false = false := by
      rw [List.getD_eq_getElem?_getD]
      cases q : (ms.map fun _ => false)[x]? with
      | none => rfl
      | some b => have := List.mem_of_getElem? q; simp at this; simp [this.2]
    rw [this] at hd
    cases hd
  · intro y hy hne hd
    have : (ms.map fun _ => false).getD x false = false := by
      rw [List.getD_eq_getElem?_getD]
      cases q : (ms.map fun _ => false)[x]? with
      | none => rfl
      | some b => have := List.mem_of_getElem? q; simp at this; simp [this.2]
    rw [this] at hd
    cases hd
end
theorem len1 {α : Type} {u : List α} (h : u.length = 1) : ∃ x0, u = [x0] := by
  match u, h with
  | [x0], _ => exact ⟨x0, rfl⟩
theorem len2 {α : Type} {u : List α} (h : u.length = 2) : ∃ x0 x1, u = [x0, x1] := by
  match u, h with
  | [x0, x1], _ => exact ⟨x0, x1, rfl⟩
theorem len3 {α : Type} {u : List α} (h : u.length = 3) : ∃ x0 x1 x2, u = [x0, x1, x2] := by
  match u, h with
  | [x0, x1, x2], _ => exact ⟨x0, x1, x2, rfl⟩
theorem len4 {α : Type} {u : List α} (h : u.length = 4) : ∃ x0 x1 x2 x3, u = [x0, x1, x2, x3] := by
  match u, h with
  | [x0, x1, x2, x3], _ => exact ⟨x0, x1, x2, x3, rfl⟩
theorem len5 {α : Type} {u : List α} (h : u.length = 5) : ∃ x0 x1 x2 x3 x4, u = [x0, x1, x2, x3, x4] := by
  match u, h with
  | [x0, x1, x2, x3, x4], _ => exact ⟨x0, x1, x2, x3, x4, rfl⟩
theorem len6 {α : Type} {u : List α} (h : u.length = 6) : ∃ x0 x1 x2 x3 x4 x5, u = [x0, x1, x2, x3, x4, x5] := by
  match u, h with
  | [x0, x1, x2, x3, x4, x5], _ => exact ⟨x0, x1, x2, x3, x4, x5, rfl⟩
theorem len7 {α : Type} {u : List α} (h : u.length = 7) : ∃ x0 x1 x2 x3 x4 x5 x6, u = [x0, x1, x2, x3, x4, x5, x6] := by
  match u, h with
  | [x0, x1, x2, x3, x4, x5, x6], _ => exact ⟨x0, x1, x2, x3, x4, x5, x6, rfl⟩
theorem lt2 {p : Nat → Prop} (h0 : p 0) (h1 : p 1) : ∀ j, j < 2 → p j := fun j h => by
  match j, h with
  | 0, _ => exact h0
  | 1, _ => exact h1
theorem lt3 {p : Nat → Prop} (h0 : p 0) (h1 : p 1) (h2 : p 2) : ∀ j, j < 3 → p j := fun j h => by
  match j, h with
  | 0, _ => exact h0
  | 1, _ => exact h1
  | 2, _ => exact h2
theorem lt4 {p : Nat → Prop} (h0 : p 0) (h1 : p 1) (h2 : p 2) (h3 : p 3) : ∀ j, j < 4 → p j := fun j h => by
  match j, h with
  | 0, _ => exact h0
  | 1, _ => exact h1
  | 2, _ => exact h2
  | 3, _ => exact h3
theorem lt5 {p : Nat → Prop} (h0 : p 0) (h1 : p 1) (h2 : p 2) (h3 : p 3) (h4 : p 4) : ∀ j, j < 5 → p j := fun j h => by
  match j, h with
  | 0, _ => exact h0
  | 1, _ => exact h1
  | 2, _ => exact h2
  | 3, _ => exact h3
  | 4, _ => exact h4
theorem lt6 {p : Nat → Prop} (h0 : p 0) (h1 : p 1) (h2 : p 2) (h3 : p 3) (h4 : p 4) (h5 : p 5) : ∀ j, j < 6 → p j := fun j h => by
  match j, h with
  | 0, _ => exact h0
  | 1, _ => exact h1
  | 2, _ => exact h2
  | 3, _ => exact h3
  | 4, _ => exact h4
  | 5, _ => exact h5
theorem lt7 {p : Nat → Prop} (h0 : p 0) (h1 : p 1) (h2 : p 2) (h3 : p 3) (h4 : p 4) (h5 : p 5) (h6 : p 6) : ∀ j, j < 7 → p j := fun j h => by
  match j, h with
  | 0, _ => exact h0
  | 1, _ => exact h1
  | 2, _ => exact h2
  | 3, _ => exact h3
  | 4, _ => exact h4
  | 5, _ => exact h5
  | 6, _ => exact h6
end Go.Proofs.YtgfakdobajgnfaaGreatDoor
