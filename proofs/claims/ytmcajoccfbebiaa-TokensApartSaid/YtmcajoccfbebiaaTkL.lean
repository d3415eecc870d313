/- Tokens: the tree, in plain words. -/
import Derived.Test.YtmcajoccfbebiaaTk3
namespace Go.Proofs.Ytmcajoccfbebiaa

/-- Tokens that are a tree: by rising numbers; each one's parent is there, and has a lesser number. -/
structure TreeOk (T : List Tk) (last : Int) : Prop where
  asc : (T.map Tk.id).Pairwise (· < ·)
  zero : zeroTk ∈ T
  ge : ∀ t ∈ T, 0 ≤ t.id ∧ t.id ≤ last
  par : ∀ t ∈ T, t.id ≠ 0 → ∃ p ∈ T, p.id = t.parent
  lt : ∀ t ∈ T, t.parent < t.id
  pos : ∀ t ∈ T, 0 ≤ t.node ∧ 0 ≤ t.fact

theorem tree_one : TreeOk [zeroTk] 0 :=
  ⟨by simp, by simp, by simp [zeroTk], by simp [zeroTk], by simp [zeroTk], by simp [zeroTk]⟩

section
variable {T : List Tk} {last : Int}
theorem TreeOk.uniq (h : TreeOk T last) {t u : Tk} (ht : t ∈ T) (hu : u ∈ T) (e : t.id = u.id) : t = u := by
  rcases pairwise_cases (List.pairwise_map.1 h.asc) ht hu with q | q | q
  · exact q
  · omega
  · omega
theorem TreeOk.lst (h : TreeOk T last) : 0 ≤ last := (h.ge _ h.zero).2
theorem TreeOk.of0 (h : TreeOk T last) {t : Tk} (ht : t ∈ T) (e : t.id = 0) : t = zeroTk := h.uniq ht h.zero e
theorem getT_some {n : Int} {t : Tk} (h : getT T n = some t) : t ∈ T ∧ t.id = n := by
  unfold getT at h
  exact ⟨List.mem_of_find?_eq_some h, by simpa using List.find?_some h⟩
theorem TreeOk.get (h : TreeOk T last) {t : Tk} (ht : t ∈ T) : getT T t.id = some t := by
  cases hg : getT T t.id with
  | none =>
    unfold getT at hg
    have := List.find?_eq_none.1 hg t ht
    simp at this
  | some u =>
    obtain ⟨hu, e⟩ := getT_some hg
    rw [h.uniq hu ht e]
theorem getT_none {n : Int} (h : getT T n = none) : ∀ t ∈ T, t.id ≠ n := fun t ht e => by
  unfold getT at h
  have := List.find?_eq_none.1 h t ht
  simp [e] at this
theorem getT_none_of {n : Int} (h : ∀ t ∈ T, t.id ≠ n) : getT T n = none := by
  unfold getT
  rw [List.find?_eq_none]
  intro t ht
  simpa using h t ht
theorem kid_mem {n k : Int} : k ∈ ofG kG T n ↔ ∃ t ∈ T, t.id ≠ 0 ∧ t.parent = n ∧ t.id = k := by
  rw [ofG_mem]
  constructor
  · rintro ⟨t, ht, h1, h2⟩
    unfold kG at h1
    split at h1
    · cases h1
    · rename_i h0
      exact ⟨t, ht, h0, by injection h1, h2⟩
  · rintro ⟨t, ht, h0, h1, h2⟩
    exact ⟨t, ht, by unfold kG; rw [if_neg h0, h1], h2⟩

/-- A token, and all below it, as they are gathered. -/
def pre (T : List Tk) : Nat → Int → List Tk
  | 0, _ => []
  | m + 1, n => (getT T n).getD noTk :: (ofG kG T n).flatMap (pre T m)
/-- y is x, or above it. -/
inductive Up (T : List Tk) : Int → Int → Prop
  | refl (x : Int) : Up T x x
  | step {t : Tk} {x y : Int} (ht : t ∈ T) (e : t.id = x) (h0 : t.id ≠ 0) (h : Up T t.parent y) : Up T x y

theorem TreeOk.up_le (h : TreeOk T last) {x y : Int} (hu : Up T x y) : y ≤ x := by
  induction hu with
  | refl x => exact Int.le_refl _
  | step ht e h0 _ ih =>
    have := h.lt _ ht
    omega
theorem up_snoc {x k : Int} (hu : Up T x k) : ∀ t ∈ T, t.id = k → t.id ≠ 0 → Up T x t.parent := by
  induction hu with
  | refl x =>
    rintro t ht rfl h0
    exact .step ht rfl h0 (.refl _)
  | step ht e h0 _ ih => exact fun u hu e' hu0 => .step ht e h0 (ih u hu e' hu0)
/-- Two kids of one are not both above one. -/
theorem TreeOk.apart (h : TreeOk T last) {n x k1 : Int} (hu : Up T x k1) : ∀ {k2 : Int}, Up T x k2 → k1 ∈ ofG kG T n → k2 ∈ ofG kG T n → k1 = k2 := by
  induction hu with
  | refl x =>
    intro k2 h2 hk1 hk2
    cases h2 with
    | refl => rfl
    | @step t _ _ ht e h0 hp =>
      obtain ⟨t1, ht1, h01, hp1, e1⟩ := kid_mem.1 hk1
      obtain rfl := h.uniq ht1 ht (e1.trans e.symm)
      obtain ⟨t2, ht2, h02, hp2, e2⟩ := kid_mem.1 hk2
      have := h.up_le hp
      have := h.lt _ ht2
      omega
  | @step t x y ht e h0 hp ih =>
    intro k2 h2 hk1 hk2
    cases h2 with
    | refl =>
      obtain ⟨t2, ht2, h02, hp2, e2⟩ := kid_mem.1 hk2
      obtain rfl := h.uniq ht2 ht (e2.trans e.symm)
      obtain ⟨t1, ht1, h01, hp1, e1⟩ := kid_mem.1 hk1
      have := h.up_le hp
      have := h.lt _ ht1
      omega
    | @step u _ _ hu e' hu0 hq =>
      obtain rfl := h.uniq hu ht (e'.trans e.symm)
      exact ih hq hk1 hk2

theorem TreeOk.pre_sub (h : TreeOk T last) : ∀ (m : Nat) (n : Int), (∃ t ∈ T, t.id = n) → ∀ t ∈ pre T m n, t ∈ T ∧ Up T t.id n
  | 0, _, _, t, ht => by simp [pre] at ht
  | m + 1, n, ⟨u, hu, hn⟩, t, ht => by
    subst hn
    unfold pre at ht
    rw [h.get hu, Option.getD_some] at ht
    rcases List.mem_cons.1 ht with rfl | ht
    · exact ⟨hu, .refl _⟩
    · obtain ⟨k, hk, htk⟩ := List.mem_flatMap.1 ht
      obtain ⟨v, hv, hv0, hvp, hvk⟩ := kid_mem.1 hk
      obtain ⟨h1, h2⟩ := TreeOk.pre_sub h m k ⟨v, hv, hvk⟩ t htk
      exact ⟨h1, hvp ▸ up_snoc h2 v hv hvk hv0⟩
theorem nodup_flat {f : Int → List Int} : ∀ {l : List Int}, (∀ k ∈ l, (f k).Nodup) → l.Pairwise (fun a b => ∀ x, x ∈ f a → x ∉ f b) → (l.flatMap f).Nodup
  | [], _, _ => by simp
  | k :: l, h1, h2 => by
    rw [List.pairwise_cons] at h2
    rw [List.flatMap_cons, List.nodup_append]
    refine ⟨h1 k (.head _), nodup_flat (fun j hj => h1 j (.tail _ hj)) h2.2, fun a ha b hb e => ?_⟩
    obtain ⟨j, hj, hbj⟩ := List.mem_flatMap.1 hb
    exact h2.1 j hj a ha (e ▸ hbj)
theorem TreeOk.pre_nodup (h : TreeOk T last) : ∀ (m : Nat) (n : Int), (∃ t ∈ T, t.id = n) → ((pre T m n).map Tk.id).Nodup
  | 0, _, _ => by simp [pre]
  | m + 1, n, ⟨u, hu, hn⟩ => by
    subst hn
    unfold pre
    rw [h.get hu, Option.getD_some, List.map_cons, List.map_flatMap, List.nodup_cons]
    have hk : ∀ k ∈ ofG kG T u.id, ∃ t ∈ T, t.id = k := fun k hk => by
      obtain ⟨v, hv, _, _, e⟩ := kid_mem.1 hk
      exact ⟨v, hv, e⟩
    refine ⟨fun q => ?_, nodup_flat (fun k hkm => TreeOk.pre_nodup h m k (hk k hkm)) ?_⟩
    · obtain ⟨k, hkm, hx⟩ := List.mem_flatMap.1 q
      obtain ⟨t, ht, e⟩ := List.mem_map.1 hx
      have h1 := h.up_le (h.pre_sub m k (hk k hkm) t ht).2
      obtain ⟨v, hv, _, hp, e2⟩ := kid_mem.1 hkm
      have := h.lt v hv
      omega
    · refine (ofG_asc h.asc u.id).imp_of_mem fun {a b} ha hb hab x hxa hxb => ?_
      obtain ⟨t, ht, e⟩ := List.mem_map.1 hxa
      obtain ⟨t', ht', e'⟩ := List.mem_map.1 hxb
      have h1 := (h.pre_sub m a (hk a ha) t ht).2
      have h2 := (h.pre_sub m b (hk b hb) t' ht').2
      rw [e] at h1
      rw [e'] at h2
      have := h.apart h1 h2 ha hb
      omega
theorem TreeOk.pre_head (h : TreeOk T last) {m : Nat} {u : Tk} (hu : u ∈ T) : u ∈ pre T (m + 1) u.id := by
  unfold pre
  rw [h.get hu]
  exact .head _
theorem TreeOk.pre_closed (h : TreeOk T last) : ∀ (m : Nat) (n : Int), (∃ t ∈ T, t.id = n) → last - n < m → ∀ t ∈ T, t.id ≠ 0 → (∃ u ∈ pre T m n, u.id = t.parent) → t ∈ pre T m n
  | 0, n, ⟨u, hu, hn⟩, hm, _, _, _, _ => by
    have := (h.ge u hu).2
    omega
  | m + 1, n, ⟨u, hu, hn⟩, hm, t, ht, h0, ⟨v, hv, e⟩ => by
    subst hn
    have hv2 := hv
    unfold pre at hv
    rw [h.get hu, Option.getD_some] at hv
    have hin : ∀ k ∈ ofG kG T u.id, t ∈ pre T m k → t ∈ pre T (m + 1) u.id := fun k hk q => by
      unfold pre
      exact .tail _ (List.mem_flatMap.2 ⟨k, hk, q⟩)
    have htl := (h.ge t ht).2
    rcases List.mem_cons.1 hv with rfl | hv
    · have hk : t.id ∈ ofG kG T v.id := kid_mem.2 ⟨t, ht, h0, e.symm, rfl⟩
      have := h.lt t ht
      obtain ⟨m', rfl⟩ : ∃ m', m = m' + 1 := ⟨m - 1, by omega⟩
      exact hin _ hk (h.pre_head ht)
    · obtain ⟨k, hk, hvk⟩ := List.mem_flatMap.1 hv
      obtain ⟨q, hq, _, hp, hqk⟩ := kid_mem.1 hk
      have := h.lt q hq
      exact hin k hk (TreeOk.pre_closed h m k ⟨q, hq, hqk⟩ (by omega) t ht h0 ⟨v, hvk, e⟩)

/-- What a Remove tells. -/
def goneL (T : List Tk) (last n : Int) : List Tk := if n = 0 then [] else if (getT T n).isNone then [] else pre T (last + 1).toNat n
def isIn (l : List Tk) (x : Int) : Bool := l.any fun u => u.id == x
/-- What it leaves. -/
def remT (T : List Tk) (last n : Int) : List Tk := T.filter fun t => !isIn (goneL T last n) t.id
theorem isIn_true {l : List Tk} {x : Int} : isIn l x = true ↔ ∃ u ∈ l, u.id = x := by
  unfold isIn
  rw [List.any_eq_true]
  simp

theorem TreeOk.gone (h : TreeOk T last) (n : Int) : (∀ t ∈ goneL T last n, t ∈ T ∧ n ≤ t.id ∧ t.id ≠ 0) ∧ ((goneL T last n).map Tk.id).Nodup ∧ (∀ t ∈ T, t.id ≠ 0 → (∃ u ∈ goneL T last n, u.id = t.parent) → t ∈ goneL T last n) := by
  unfold goneL
  split
  · exact ⟨by simp, by simp, fun _ _ _ ⟨u, hu, _⟩ => by simp at hu⟩
  · rename_i h0
    split
    · exact ⟨by simp, by simp, fun _ _ _ ⟨u, hu, _⟩ => by simp at hu⟩
    · rename_i hg
      cases hc : getT T n with
      | none => simp [hc] at hg
      | some u =>
        obtain ⟨hu, e⟩ := getT_some hc
        have hn : ∃ t ∈ T, t.id = n := ⟨u, hu, e⟩
        have hge := h.ge u hu
        refine ⟨fun t ht => ?_, h.pre_nodup _ n hn, fun t ht h1 h2 => h.pre_closed _ n hn (by omega) t ht h1 h2⟩
        obtain ⟨h1, h2⟩ := h.pre_sub _ n hn t ht
        have := h.up_le h2
        exact ⟨h1, this, by omega⟩
theorem rem_mem {n : Int} {t : Tk} : t ∈ remT T last n ↔ t ∈ T ∧ ¬ ∃ u ∈ goneL T last n, u.id = t.id := by
  unfold remT
  rw [List.mem_filter, ← isIn_true]
  simp
theorem TreeOk.rem (h : TreeOk T last) (n : Int) : TreeOk (remT T last n) last := by
  obtain ⟨g1, g2, g3⟩ := h.gone n
  refine ⟨h.asc.sublist (List.filter_sublist.map _), rem_mem.2 ⟨h.zero, ?_⟩, fun t ht => h.ge t (rem_mem.1 ht).1, fun t ht h0 => ?_, fun t ht => h.lt t (rem_mem.1 ht).1, fun t ht => h.pos t (rem_mem.1 ht).1⟩
  · rintro ⟨u, hu, e⟩
    exact (g1 u hu).2.2 e
  · obtain ⟨ht1, ht2⟩ := rem_mem.1 ht
    obtain ⟨p, hp, e⟩ := h.par t ht1 h0
    refine ⟨p, rem_mem.2 ⟨hp, ?_⟩, e⟩
    rintro ⟨u, hu, e2⟩
    exact ht2 ⟨t, g3 t ht1 h0 ⟨u, hu, e2.trans e⟩, rfl⟩
theorem nodup_of_map {α β : Type} {f : α → β} : ∀ {l : List α}, (l.map f).Nodup → l.Nodup
  | [], _ => by simp
  | a :: l, h => by
    simp only [List.map_cons, List.nodup_cons] at h ⊢
    exact ⟨fun q => h.1 (List.mem_map.2 ⟨a, q, rfl⟩), nodup_of_map h.2⟩
theorem asc_nodup {l : List Int} (h : l.Pairwise (· < ·)) : l.Nodup := h.imp fun h => by omega
theorem TreeOk.rem_len (h : TreeOk T last) (n : Int) : (remT T last n).length + (goneL T last n).length = T.length := by
  obtain ⟨g1, g2, g3⟩ := h.gone n
  have hp : (T.filter fun t => isIn (goneL T last n) t.id).Perm (goneL T last n) := by
    rw [List.perm_ext_iff_of_nodup ((nodup_of_map (asc_nodup h.asc)).sublist List.filter_sublist) (nodup_of_map g2)]
    intro t
    rw [List.mem_filter, isIn_true]
    constructor
    · rintro ⟨ht, u, hu, e⟩
      rw [h.uniq ht (g1 u hu).1 e.symm]
      exact hu
    · exact fun ht => ⟨(g1 t ht).1, t, ht, rfl⟩
  have hl := (List.filter_append_perm (fun t => isIn (goneL T last n) t.id) T).length_eq
  rw [List.length_append] at hl
  have := hp.length_eq
  unfold remT
  omega

/-- Another token. -/
theorem TreeOk.add (h : TreeOk T last) {p n f : Int} (hp : (getT T p).isSome) (hn : 0 ≤ n) (hf : 0 ≤ f) : TreeOk (T ++ [⟨last + 1, p, n, f⟩]) (last + 1) := by
  obtain ⟨q, hq⟩ := Option.isSome_iff_exists.1 hp
  obtain ⟨hqT, hqp⟩ := getT_some hq
  have hq2 := h.ge q hqT
  have hl := h.lst
  refine ⟨?_, List.mem_append_left _ h.zero, fun t ht => ?_, fun t ht h0 => ?_, fun t ht => ?_, fun t ht => ?_⟩
  · rw [List.map_append, List.pairwise_append]
    refine ⟨h.asc, by simp, fun a ha b hb => ?_⟩
    obtain ⟨t, ht, rfl⟩ := List.mem_map.1 ha
    simp only [List.map_cons, List.map_nil, List.mem_singleton] at hb
    have := (h.ge t ht).2
    omega
  · rcases List.mem_append.1 ht with ht | ht
    · have := h.ge t ht
      omega
    · rw [List.mem_singleton.1 ht]
      simp only
      omega
  · rcases List.mem_append.1 ht with ht | ht
    · obtain ⟨u, hu, e⟩ := h.par t ht h0
      exact ⟨u, List.mem_append_left _ hu, e⟩
    · rw [List.mem_singleton.1 ht]
      exact ⟨q, List.mem_append_left _ hqT, hqp⟩
  · rcases List.mem_append.1 ht with ht | ht
    · exact h.lt t ht
    · rw [List.mem_singleton.1 ht]
      simp only
      omega
  · rcases List.mem_append.1 ht with ht | ht
    · exact h.pos t ht
    · rw [List.mem_singleton.1 ht]
      exact ⟨hn, hf⟩

/-- The facts on the way up. -/
def chain (T : List Tk) : Nat → Int → List Int
  | 0, _ => []
  | m + 1, n => match getT T n with
    | none => []
    | some t => (if 0 < t.fact then [t.fact] else []) ++ chain T m t.parent
theorem TreeOk.chain_fuel (h : TreeOk T last) : ∀ (m m' : Nat) (n : Int), n < m → n < m' → chain T m n = chain T m' n
  | 0, m', n, h1, h2 => by
    have hn : getT T n = none := getT_none_of fun t ht e => by
      have := (h.ge t ht).1
      omega
    cases m' with
    | zero => rfl
    | succ m' => simp [chain, hn]
  | m + 1, m', n, h1, h2 => by
    cases m' with
    | zero =>
      have hn : getT T n = none := getT_none_of fun t ht e => by
        have := (h.ge t ht).1
        omega
      simp [chain, hn]
    | succ m' =>
      unfold chain
      cases hg : getT T n with
      | none => rfl
      | some t =>
        obtain ⟨ht, e⟩ := getT_some hg
        have := h.lt t ht
        simp only
        rw [TreeOk.chain_fuel h m m' t.parent (by omega) (by omega)]
/-- A token's tuple. -/
def tupT (T : List Tk) (last n : Int) : List Int := (chain T (last + 1).toNat n).reverse
theorem chain_len (T : List Tk) : ∀ (m : Nat) (n : Int), (chain T m n).length ≤ m
  | 0, _ => Nat.le_refl _
  | m + 1, n => by
    unfold chain
    split
    · simp
    · rename_i t _
      have := chain_len T m t.parent
      rw [List.length_append]
      split <;> simp <;> omega
theorem TreeOk.chain_none (n : Int) (hg : getT T n = none) (m : Nat) : chain T m n = [] := by
  cases m with
  | zero => rfl
  | succ m => simp [chain, hg]
theorem TreeOk.chain_some (h : TreeOk T last) {n : Int} {t : Tk} (hg : getT T n = some t) : chain T (last + 1).toNat n = (if 0 < t.fact then [t.fact] else []) ++ chain T (last + 1).toNat t.parent := by
  obtain ⟨ht, e⟩ := getT_some hg
  have h1 := h.ge t ht
  have h2 := h.lt t ht
  obtain ⟨m, hm⟩ : ∃ m, (last + 1).toNat = m + 1 := ⟨last.toNat, by omega⟩
  rw [hm]
  conv => lhs; unfold chain
  rw [hg]
  simp only
  rw [h.chain_fuel m (m + 1) t.parent (by omega) (by omega)]
end
end Go.Proofs.Ytmcajoccfbebiaa
