/- A range over a function whose iterator reads what the body has written into a variable that it was handed. No program is named. -/
import Derived.RangeFuncWrites
import Derived.RangeFuncLeaves
import Derived.RangeFuncCalls
import Derived.OrdersIn
namespace Go.Proofs.YtkjndabbkfbkaaaGreatDoor
open Go Go.RowKit

/-- One block at or beyond B has turned, at most: it holds no cells, or cells of a type of T; or new blocks have come. -/
def Turn (T : TypeId → Prop) (B : Nat) (W W' : World) : Prop :=
  ∃ row, W.grownBy W' row ∧ ∀ r, row = some r → B ≤ r ∧ ((∃ o : Obj, W.heap[r]? = some o ∧ o.isCells = false) ∨ ∃ cs t fz, T t ∧ W.heap[r]? = some (.cells cs t fz))
theorem Turn.put {T : TypeId → Prop} {B l : Nat} {W : World} {o : Obj} (o' : Obj) (hB : B ≤ l) (h : W.heap[l]? = some o) (ho : o.isCells = false) : Turn T B W (W.putObj l o') :=
  ⟨some l, grownBy_putObj' W l o', fun r e => by cases e; exact ⟨hB, .inl ⟨o, h, ho⟩⟩⟩
theorem Turn.new (T : TypeId → Prop) (B : Nat) (W : World) (o : Obj) : Turn T B W (W.alloc o) := ⟨none, World.grownBy_alloc W o none, fun r e => by cases e⟩
theorem Turn.mono {T : TypeId → Prop} {B B' : Nat} {W W' : World} (h : Turn T B W W') (hB : B' ≤ B) : Turn T B' W W' := by
  obtain ⟨row, h1, h2⟩ := h
  exact ⟨row, h1, fun r e => ⟨Nat.le_trans hB (h2 r e).1, (h2 r e).2⟩⟩
theorem Turn.keeps {T : TypeId → Prop} {B k : Nat} {W W' : World} {o : Obj} (h : Turn T B W W') (hk : W.heap[k]? = some o) (hn : k < B ∨ ∃ cs t fz, o = .cells cs t fz ∧ ¬ T t) : W'.heap[k]? = some o := by
  obtain ⟨row, h1, h2⟩ := h
  refine (h1.block k (Array.getElem?_eq_some_iff.1 hk).1 fun e => ?_).trans hk
  obtain ⟨h3, h4⟩ := h2 k e.symm
  rcases hn with hn | ⟨cs, t, fz, rfl, ht⟩
  · omega
  · rcases h4 with ⟨o, ho, hc⟩ | ⟨cs', t', fz', ht', ho⟩
    · rw [hk] at ho
      cases ho
      cases hc
    · rw [hk] at ho
      cases ho
      exact ht ht'
/-- How a round's body may be left. -/
def toldPost {α : Type} (B : Nat) (Kp : α → World → World → Prop) (I Ix : List α → World → Prop) (pre : List α) (x : α) (W : World) : Exit → Act → World → Prop
  | .normal, _, W' => KeepsFrom B W W' ∧ Kp x W W' ∧ I (pre ++ [x]) W'
  | .ret, _, W' => KeepsFrom B W W' ∧ Ix (pre ++ [x]) W'
  | _, _, _ => False
/-- What an iterator is asked for: J lasts while it writes its own variables; Of: what it offers; Kp: what a round has done for it. -/
def Tells {α : Type} (F : Fence) (n : Nat) (P : Program) (gf : Nat) (lb : Array Value) (encs : α → Array Value) (T : TypeId → Prop) (Of : List α → α → World → Prop) (Kp : α → World → World → Prop) (S : List α → Prop) (w : World) : Prop :=
  ∀ (l : Nat) (J Jx : List α → World → Prop) (W : World), Below w.heap.size w W → w.heap.size < W.heap.size → (∀ s A B, J s A → Turn T W.heap.size A B → J s B) → (∀ s A B, Jx s A → Turn T W.heap.size A B → Jx s B) →
    (∀ pre x A, J pre A → Of pre x A → YieldAt F (n - 1) P l (encs x) A fun e B => (e = .returned (.bool true) ∧ J (pre ++ [x]) B ∧ Kp x A B) ∨ (e = .returned (.bool false) ∧ Jx (pre ++ [x]) B)) →
    J [] W → CallsIn F n P gf (#[.func (.yield l) #[] #[]] ++ lb) W fun e B => (∃ v, e = .returned v) ∧ ((∃ xs, S xs ∧ J xs B) ∨ (∃ pre, Jx pre B))
theorem range_told {α : Type} {F : Fence} {n : Nat} {P : Program} {g : Operand} {ps : Array Tmp} {assign body : Code} {Q : Exit → Act → World → Prop} {a : Act} {w : World}
    (hro : F.round = none) (h1 : 1 ≤ n) {gf : Nat} {lb : Array Value} (hg : a.eval g = .func (.func gf) #[] lb) (hFg : F.fn gf) (eg : ∀ args w, (callFunc gf args).run P w = .ok (.enter gf args) w)
    {encs : α → Array Value} {T : TypeId → Prop} {Of : List α → α → World → Prop} {Kp : α → World → World → Prop} {S : List α → Prop} (hseq : Tells F (n - 1) P gf lb encs T Of Kp S w) (hps : ∀ x, (encs x).size = ps.size)
    (I Ix : List α → World → Prop) (hI : ∀ s A B, I s A → Turn T w.heap.size A B → I s B) (hIx : ∀ s A B, Ix s A → Turn T w.heap.size A B → Ix s B) (h0 : I [] w) (ob : α → Obj) (a₁ : α → World → Act)
    (hOf : ∀ pre x W l o o', Of pre x W → W.heap[l]? = some o → o.isCells = false → Of pre x ((W.alloc (ob x)).putObj l o'))
    (hKp : ∀ x W Y l o o' p p', W.heap[l]? = some o → o.isCells = false → Kp x ((W.alloc (ob x)).putObj l o') Y → Y.heap[l]? = some p → p.isCells = false → Kp x W (Y.putObj l p'))
    (hassign : ∀ (l : Nat) (x : α) (W : World) (K : Act → World → Prop), K (a₁ x W) (W.alloc (ob x)) →
      assign.wpIn (F.inRound l) (n - 1 - 1) P (Exit.then K (fun _ _ _ => False)) { tmps := (ps.zip (encs x)).foldl (fun t (p, v) => t.setIfInBounds p v) a.tmps, defers := [] } W)
    (hbody : ∀ (l : Nat) (pre : List α) (x : α) (W : World) (o o' : Obj), w.heap.size < l → W.heap[l]? = some o → o.isCells = false → I pre ((W.alloc (ob x)).putObj l o') → Of pre x ((W.alloc (ob x)).putObj l o') → body.wpIn (F.inRound l) (n - 1 - 1) P (toldPost w.heap.size Kp I Ix pre x ((W.alloc (ob x)).putObj l o')) (a₁ x W) ((W.alloc (ob x)).putObj l o'))
    (hdone : ∀ (D : Nat) (xs : List α) (W : World), w.heap.size ≤ D → S xs → I xs W → W.heap[D]? = some (.deferred (some [])) → Q .normal { a with defers := { target := .collected D, args := #[] } :: a.defers } W)
    (hstop : ∀ (D : Nat) (pre : List α) (W : World), w.heap.size ≤ D → Ix pre W → W.heap[D]? = some (.deferred (some [])) → Code.ret.wpIn F n P Q { a with defers := { target := .collected D, args := #[] } :: a.defers } W) :
    (Code.rangeFunc g ps assign body).wpIn F n P Q a w := by
  refine wpIn_rangeFunc fun fn hfn => ?_
  rw [hro]
  let R : LoopState → Option Code → Loop := fun st pe => { state := st, pending := pe, fn, tmps := a.tmps, params := ps, assign, body, defers := w.heap.size }
  let L := w.heap.size + 1
  let Bk : LoopState → Option Code → World → Prop := fun st pe W => W.heap[L]? = some (.loop (R st pe)) ∧ W.heap[w.heap.size]? = some (.deferred (some []))
  obtain ⟨W1, hW1⟩ : ∃ W1, (w.alloc (.deferred (some []))).alloc (.loop (R .ready none)) = W1 := ⟨_, rfl⟩
  have hbk1 : Bk .ready none W1 := by
    rw [← hW1]
    refine ⟨?_, (Below.heap_alloc _ _ _ (by simp)).trans (World.alloc_heap_new w _)⟩
    have := World.alloc_heap_new (w.alloc (.deferred (some []))) (.loop (R .ready none))
    rwa [World.size_alloc] at this
  have hz1 : W1.heap.size = w.heap.size + 2 := by rw [← hW1]; simp
  have hI1 : I [] W1 := by rw [← hW1]; exact hI _ _ _ (hI _ _ _ h0 (Turn.new T _ _ _)) (Turn.new T _ _ _)
  have hb1 : Below w.heap.size w W1 := by rw [← hW1]; exact ((Below.refl _ w).alloc (Nat.le_refl _) _).alloc (by simp) _
  have hturn : ∀ {st pe A B}, Bk st pe A → Turn T W1.heap.size A B → Bk st pe B := fun hk ht => ⟨ht.keeps hk.1 (.inl (by omega)), ht.keeps hk.2 (.inl (by omega))⟩
  have hput : ∀ {st pe A} (st' : LoopState) (pe' : Option Code), Bk st pe A → Bk st' pe' (A.putObj L (.loop (R st' pe'))) := fun {st pe A} st' pe' hk =>
    ⟨World.putObj_heap_same (Array.getElem?_eq_some_iff.1 hk.1).1, (World.putObj_heap_other (by omega)).trans hk.2⟩
  have hkeep : ∀ {st pe A B}, Bk st pe A → KeepsFrom w.heap.size A B → Bk st pe B := fun hk hf => ⟨hf.same _ _ (by omega) hk.1 rfl, hf.same _ _ (Nat.le_refl _) hk.2 rfl⟩
  have hIp : ∀ {s st pe A} (o' : Obj), I s A → Bk st pe A → I s (A.putObj L o') := fun o' hi hk => hI _ _ _ hi (Turn.put o' (by omega) hk.1 rfl)
  have hIxp : ∀ {s st pe A} (o' : Obj), Ix s A → Bk st pe A → Ix s (A.putObj L o') := fun o' hi hk => hIx _ _ _ hi (Turn.put o' (by omega) hk.1 rfl)
  refine ⟨L, [{ target := .collected w.heap.size, args := #[] }], W1, { target := .fn (.func gf) lb, args := #[.func (.yield L) #[] #[]] }, W1, gf, #[.func (.yield L) #[] #[]] ++ lb, W1, ?_, ?_, ?_, ?_, fun _ => h1, ?_⟩
  · rw [← hW1]
    exact run_enterLoop_outer _ _ _ _ _
  · simp only [resolve, hg]
    simp [go_sem]
  · intro f' hf'
    simp [Target.leads] at hf'
    subst hf'
    exact hFg
  · simp [invoke, go_sem, eg]
  refine (hseq L (fun pre W => I pre W ∧ Bk .ready none W) (fun pre W => Ix pre W ∧ Bk .done (some .ret) W) W1 hb1 (by omega)
    (fun s A B hs ht => ⟨hI _ _ _ hs.1 (ht.mono (by omega)), hturn hs.2 ht⟩) (fun s A B hs ht => ⟨hIx _ _ _ hs.1 (ht.mono (by omega)), hturn hs.2 ht⟩) ?_ ⟨hI1, hbk1⟩).mono ?_
  · rintro pre x A ⟨hi, hk⟩ hof
    have hka : Bk .ready none (A.alloc (ob x)) := ⟨(Below.heap_alloc _ _ _ (Array.getElem?_eq_some_iff.1 hk.1).1).trans hk.1, (Below.heap_alloc _ _ _ (Array.getElem?_eq_some_iff.1 hk.2).1).trans hk.2⟩
    have hk2 := hput .busy none hka
    refine ⟨fn, _, assign, body, run_yield (r := R .ready none) hk.1 (hps x), roundIn_of_wpIn hfn (hassign _ x A _ ⟨_, run_beginRound hka.1 rfl, ?_⟩)⟩
    refine wpIn_mono (hbody _ pre x A _ _ (by omega) hk.1 rfl (hIp _ (hI _ _ _ hi (Turn.new T _ _ _)) hka) (hOf _ _ _ _ _ _ hof hk.1 rfl)) ?_
    rintro e a3 B hp
    cases e with
    | normal =>
      obtain ⟨hf, hkp, hi3⟩ := hp
      have hk3 := hkeep hk2 hf
      exact ⟨_, _, run_endRound none hk3.1, .inl ⟨rfl, ⟨hIp _ hi3 hk3, hput .ready none hk3⟩, hKp _ _ _ _ _ _ _ _ hk.1 rfl hkp hk3.1 rfl⟩⟩
    | ret =>
      obtain ⟨hf, hi3⟩ := hp
      have hk3 := hkeep hk2 hf
      exact ⟨_, _, run_endRound (some .ret) hk3.1, .inr ⟨rfl, hIxp _ hi3 hk3, hput .done (some .ret) hk3⟩⟩
    | exit id => exact hp.elim
    | goto t => exact hp.elim
    | panic ch => exact hp.elim
    | outgrown => exact hp.elim
  · rintro e B ⟨⟨v, rfl⟩, (⟨xs, hS, hi, hk⟩ | ⟨pre, hi, hk⟩)⟩
    · exact ⟨none, _, run_endLoop hk.1 (by simp [R]), hdone _ xs _ (Nat.le_refl _) hS (hIp _ hi hk) (hput .exhausted none hk).2⟩
    · exact ⟨some .ret, _, run_endLoop hk.1 (by simp [R]), hstop _ pre _ (Nat.le_refl _) (hIxp _ hi hk) (hput .exhausted (some .ret) hk).2⟩
/-! ### A region in a round: where no call is deferred it goes as it goes outside -/
def noDefer (ops : Array Oper) : Bool := ops.all fun o => match o.op with
  | .defer _ => false
  | _ => true
theorem noDefer_spec {ops : Array Oper} (h : noDefer ops = true) {i : Nat} {o : Oper} (ho : ops[i]? = some o) (c : Call) : o.op ≠ .defer c := fun e => by
  obtain ⟨hi, rfl⟩ := Array.getElem?_eq_some_iff.1 ho
  have := Array.all_eq_true.1 h i hi
  rw [e] at this
  cases this
theorem operIn_round {F : Fence} {n : Nat} {P : Program} {o : Oper} {a : Act} {w : World} {K : Act → World → Prop} {Q : Exit → Act → World → Prop} (l : Nat) (_ : F.round = none) (ho : ∀ c, o.op ≠ .defer c) (h : o.wpIn F n P a w K Q) : o.wpIn (F.inRound l) n P a w K Q := by
  refine ⟨h.1, ?_⟩
  have h2 := h.2
  rw [Oper.semAt_eq _ _ _ ho] at h2 ⊢
  exact h2
theorem anyIn_round {F : Fence} {n : Nat} {P : Program} {md : Region.Mode} {ops : Array Oper} {Q : Exit → Act → World → Prop} (l : Nat) (hro : F.round = none) (hd : noDefer ops = true) : ∀ (fuel : Nat) (listed : Array Bool) (a : Act) (w : World), wpAnyIn F n P md ops Q fuel listed a w → wpAnyIn (F.inRound l) n P md ops Q fuel listed a w
  | 0, _, _, _, h => h
  | fuel + 1, listed, a, w, h => by
    refine ⟨h.1, fun i hi => ?_⟩
    have h2 := wpOpIn_mono (fun a w => anyIn_round l hro hd fuel _ a w) (h.2 i hi)
    unfold wpOpIn at h2 ⊢
    cases ho : ops[i]? with
    | none => rw [ho] at h2; exact h2
    | some o =>
      rw [ho] at h2
      simp only at h2 ⊢
      split
      · rename_i hw
        rw [if_pos hw] at h2
        exact operIn_round l hro (fun c => noDefer_spec hd ho c) h2
      · rename_i hw
        rw [if_neg hw] at h2
        exact h2
theorem region_round {F : Fence} {n : Nat} {P : Program} {ops : Array Oper} {Q : Exit → Act → World → Prop} {id : Nat} {a : Act} {w : World} (l : Nat) (hro : F.round = none) (hd : noDefer ops = true) (hm : P.follows .mixedOrders = true)
    (h : wpAnyIn F n P .any ops Q ops.size (Array.replicate ops.size false) a w.drew) : (Code.region id ops true).wpIn (F.inRound l) n P Q a w :=
  wpIn_region_any hm (anyIn_round l hro hd _ _ _ _ h)
end Go.Proofs.YtkjndabbkfbkaaaGreatDoor
