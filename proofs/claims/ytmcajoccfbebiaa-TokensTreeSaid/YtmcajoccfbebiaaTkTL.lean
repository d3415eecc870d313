/- Tokens: what TokensTree says, in plain words. -/
import Derived.Test.YtmcajoccfbebiaaTkD
namespace Go.Proofs.Ytmcajoccfbebiaa

section
variable {T : List Tk} {last : Int}
theorem gone_none {n : Int} {t : Tk} (ht : t ∈ goneL T last n) : getT (remT T last n) t.id = none := by
  refine getT_none_of fun u hu e => ?_
  exact (rem_mem.1 hu).2 ⟨t, ht, e.symm⟩
theorem TreeOk.kid_gone (h : TreeOk T last) {k : Int} (hk : k ∈ ofG kG T 0) : ∀ x ∈ ofG kG (remT T last k) 0, x ∈ ofG kG T 0 ∧ x ≠ k := by
  intro x hx
  obtain ⟨t, ht, h0, hp, e⟩ := kid_mem.1 hx
  obtain ⟨ht1, ht2⟩ := rem_mem.1 ht
  refine ⟨kid_mem.2 ⟨t, ht1, h0, hp, e⟩, ?_⟩
  rintro rfl
  obtain ⟨u, hu, hu0, _, eu⟩ := kid_mem.1 hk
  refine ht2 ⟨u, ?_, eu.trans e.symm⟩
  unfold goneL
  have hne : x ≠ 0 := by rw [← eu]; exact hu0
  have hgu := h.get hu
  rw [eu] at hgu
  rw [if_neg hne, hgu, if_neg (by simp)]
  obtain ⟨m, hm⟩ : ∃ m, (last + 1).toNat = m + 1 := ⟨last.toNat, by have := h.lst; omega⟩
  rw [hm, ← eu]
  exact h.pre_head hu
theorem TreeOk.alone (h : TreeOk T last) (hk : ofG kG T 0 = []) : T.length = 1 := by
  have hall : ∀ (m : Nat) (t : Tk), t ∈ T → t.id < m → t.id = 0 := by
    intro m
    induction m with
    | zero =>
      intro t ht hm
      have := (h.ge t ht).1
      omega
    | succ m ih =>
      intro t ht hm
      by_cases h0 : t.id = 0
      · exact h0
      · obtain ⟨p, hp, e⟩ := h.par t ht h0
        have hlt := h.lt t ht
        have hp0 := ih p hp (by omega)
        have : t.id ∈ ofG kG T 0 := kid_mem.2 ⟨t, ht, h0, by omega, rfl⟩
        rw [hk] at this
        cases this
  have hz : ∀ t ∈ T, t = zeroTk := fun t ht => h.of0 ht (hall (t.id + 1).toNat t ht (by have := (h.ge t ht).1; omega))
  have hnd := nodup_of_map (asc_nodup h.asc)
  match T, hnd, hz, h.zero with
  | [t], _, _, _ => rfl
  | t :: u :: T', hnd, hz, _ =>
    have e1 := hz t (.head _)
    have e2 := hz u (.tail _ (.head _))
    simp only [List.nodup_cons, List.mem_cons, not_or] at hnd
    exact absurd (e1.trans e2.symm) hnd.1.1
theorem TreeOk.tup_add (h : TreeOk T last) {p n f : Int} (hp : (getT T p).isSome) (hn : 0 ≤ n) (hf : 0 ≤ f) :
    tupT (T ++ [⟨last + 1, p, n, f⟩]) (last + 1) (last + 1) = tupT (T ++ [⟨last + 1, p, n, f⟩]) (last + 1) p ++ (if 0 < f then [f] else []) := by
  have h' := h.add hp hn hf
  have hg : getT (T ++ [⟨last + 1, p, n, f⟩]) (last + 1) = some ⟨last + 1, p, n, f⟩ := h'.get (t := ⟨last + 1, p, n, f⟩) (by simp)
  unfold tupT
  rw [h'.chain_some hg, List.reverse_append]
  congr 1
  split <;> rfl
theorem TreeOk.get_add (h : TreeOk T last) {p n f : Int} (hp : (getT T p).isSome) (hn : 0 ≤ n) (hf : 0 ≤ f) : getT (T ++ [⟨last + 1, p, n, f⟩]) (last + 1) = some ⟨last + 1, p, n, f⟩ :=
  (h.add hp hn hf).get (t := ⟨last + 1, p, n, f⟩) (by simp)
theorem TreeOk.kid_add (h : TreeOk T last) {p n f : Int} : (last + 1) ∈ ofG kG (T ++ [⟨last + 1, p, n, f⟩]) p := by
  have := h.lst
  exact kid_mem.2 ⟨⟨last + 1, p, n, f⟩, by simp, by simp only; omega, rfl, rfl⟩
theorem TreeOk.par_lt (h : TreeOk T last) {p : Int} (hp : (getT T p).isSome) : p ≤ last := by
  obtain ⟨t, ht⟩ := Option.isSome_iff_exists.1 hp
  obtain ⟨h1, h2⟩ := getT_some ht
  have := (h.ge t h1).2
  omega
end
theorem not_map_op {w : Go.World} {A : Ar} {T : List Tk} {Fk Fa Fw : Int → List Int} {last : Int} (h : Ar4 w A T Fk Fa Fw last) {z : Nat} (hz : A.foot z) {cs : Array Go.Value} (hb : w.heap[z]? = some (.cells cs 44 (0, 0))) : False := by
  rcases hz with rfl | rfl | hz | hz | hz
  · have := h.blk
    rw [hb] at this
    cases this
  · exact not_map hb h.by'
  · obtain ⟨l, hl⟩ := h.kids.imap hz
    exact not_map hb hl
  · obtain ⟨l, hl⟩ := h.at'.imap hz
    exact not_map hb hl
  · obtain ⟨l, hl⟩ := h.wit.imap hz
    exact not_map hb hl
theorem not_map_int {w : Go.World} {A : Ar} {T : List Tk} {Fk Fa Fw : Int → List Int} {last : Int} (h : Ar4 w A T Fk Fa Fw last) {z : Nat} (hz : A.foot z) {B n : Nat} {v : Go.Value} {xs : List Go.Value} (hr : w.ownsRow B 3 1 v n xs) (hv : v.ownBlock = some z) : False := by
  rcases hr.2 with ⟨rfl, _⟩ | ⟨g, cap, cur, rfl, _, hg, _⟩
  · cases hv
  · simp only [Go.Value.ownBlock, Option.some.injEq] at hv
    subst hv
    rcases hz with e | rfl | hz | hz | hz
    · have := h.blk
      rw [← e, hg] at this
      cases this
    · exact not_map hg h.by'
    · obtain ⟨l, hl⟩ := h.kids.imap hz
      exact not_map hg hl
    · obtain ⟨l, hl⟩ := h.at'.imap hz
      exact not_map hg hl
    · obtain ⟨l, hl⟩ := h.wit.imap hz
      exact not_map hg hl
theorem any_take (K : List Int) (i : Int) {j : Nat} (hj : j < K.length) : (K.take (j + 1)).any (fun x => x == i) = ((K.take j).any (fun x => x == i) || K[j] == i) := by
  rw [List.take_succ_eq_append_getElem hj, List.any_append]
  simp
theorem any_mem {K : List Int} {i : Int} (h : i ∈ K) : K.any (fun x => x == i) = true := List.any_eq_true.2 ⟨i, h, by simp⟩
end Go.Proofs.Ytmcajoccfbebiaa
