/- The plain law of AgendaPlays: the entries, and the document's lists, say the same. -/
import Derived.Test.YtelgajgghgknnaaAgLaw
import Derived.Test.YtelgajgghgknnaaRAg3
namespace Go.Proofs.Ytelgajgghgknnaa
open Go Go.RowKit Go.MapKept Go.Sort

def anyC (cs : List Co) (c : Co) : Bool := cs.any fun d => sameC d c
theorem anyL (L : List Ac) (x : Ac) : (L.any fun a => a.same x) = anyC (L.map Ac.co) x.co := by
  unfold anyC
  rw [List.any_map]
  rfl
theorem hasE_co (l : List En) (x : Ac) : hasE l x = anyC (l.map fun e => e.ac.co) x.co := by
  unfold anyC hasE
  rw [List.any_map]
  rfl
theorem anyC_perm {cs ds : List Co} (h : cs.Perm ds) (c : Co) : anyC cs c = anyC ds c := by
  unfold anyC
  rw [Bool.eq_iff_iff, List.any_eq_true, List.any_eq_true]
  exact ⟨fun ⟨d, hd, q⟩ => ⟨d, h.mem_iff.1 hd, q⟩, fun ⟨d, hd, q⟩ => ⟨d, h.mem_iff.2 hd, q⟩⟩
theorem sameC_iff {c d : Co} : sameC c d = true ↔ c.rule = d.rule ∧ c.tup = d.tup := by simp [sameC]
theorem sameC_comm (c d : Co) : sameC c d = sameC d c := by
  rw [Bool.eq_iff_iff, sameC_iff, sameC_iff]
  exact ⟨fun ⟨h1, h2⟩ => ⟨h1.symm, h2.symm⟩, fun ⟨h1, h2⟩ => ⟨h1.symm, h2.symm⟩⟩
theorem sameC_trans {c d : Co} (h : sameC c d = true) (e : Co) : sameC c e = sameC d e := by
  obtain ⟨h1, h2⟩ := sameC_iff.1 h
  unfold sameC
  rw [h1, h2]
theorem sameC_trans' {c d : Co} (h : sameC c d = true) (e : Co) : sameC e c = sameC e d := by rw [sameC_comm e c, sameC_comm e d]; exact sameC_trans h e
theorem anyC_same {c d : Co} (h : sameC c d = true) (cs : List Co) : anyC cs c = anyC cs d := by
  unfold anyC
  congr 1
  funext e
  exact sameC_trans' h e
theorem sameC_refl (c : Co) : sameC c c = true := by simp [sameC]

/-- The entries l say what the document's lists say: what matches, L; what was fired, F. -/
structure PRel (l : List En) (L F : List Ac) : Prop where
  uniq : Uniq l
  perm : (l.map fun e => e.ac.co).Perm (L.map Ac.co)
  fired : ∀ e ∈ l, e.fired = anyC (F.map Ac.co) e.ac.co
  sub : ∀ f ∈ F, anyC (L.map Ac.co) f.co = true

theorem PRel.nil : PRel [] [] [] := ⟨List.Pairwise.nil, List.Perm.refl _, by simp, by simp⟩
theorem PRel.has {l : List En} {L F : List Ac} (h : PRel l L F) {x z : Ac} (hz : x.co = z.co) : hasE l x = (L.any fun a => a.same z) := by rw [hasE_co, anyL, anyC_perm h.perm, hz]

theorem firedE_uniq : ∀ {l : List En} {e : En} {x : Ac}, Uniq l → e ∈ l → e.ac.same x = true → firedE l x = e.fired
  | [], _, _, _, h, _ => by simp at h
  | a :: l, e, x, hu, h, hs => by
    obtain ⟨hu1, hu2⟩ := List.pairwise_cons.1 hu
    rw [firedE_cons]
    rcases List.mem_cons.1 h with rfl | h
    · rw [hs]; rfl
    · have : a.ac.same x = false := by
        have := hu1 e h
        rw [same_comm, same_trans hs, same_comm] at this
        exact this
      rw [this]
      exact firedE_uniq hu2 h hs
theorem firedE_no : ∀ {l : List En} {x : Ac}, hasE l x = false → firedE l x = false
  | [], _, _ => rfl
  | a :: l, x, h => by
    rw [hasE_cons, Bool.or_eq_false_iff] at h
    rw [firedE_cons, h.1]
    exact firedE_no h.2

theorem PRel.isFired {l : List En} {L F : List Ac} (h : PRel l L F) {x z : Ac} (hz : x.co = z.co) : firedE l x = (F.any fun a => a.same z) := by
  rw [anyL, ← hz]
  cases hh : hasE l x with
  | false =>
    rw [firedE_no hh]
    cases hf : anyC (F.map Ac.co) x.co with
    | false => rfl
    | true =>
      unfold anyC at hf
      obtain ⟨d, hd, hs⟩ := List.any_eq_true.1 hf
      obtain ⟨f, hfm, rfl⟩ := List.mem_map.1 hd
      have h1 := h.sub f hfm
      rw [anyC_same hs, ← anyC_perm h.perm, ← hasE_co, hh] at h1
      cases h1
  | true =>
    obtain ⟨e, he, hs⟩ := List.any_eq_true.1 hh
    rw [firedE_uniq h.uniq he hs, h.fired e he, anyC_same (show sameC e.ac.co x.co = true from hs)]

theorem filter_same {l : List En} (hu : Uniq l) (x : Ac) : dropped l x = l.filter fun e => !e.ac.same x := by
  induction l with
  | nil => rfl
  | cons a l ih =>
    obtain ⟨hu1, hu2⟩ := List.pairwise_cons.1 hu
    rw [dropped_cons, List.filter_cons]
    cases hs : a.ac.same x with
    | false => simp [ih hu2]
    | true =>
      simp only [if_true, Bool.not_true, Bool.false_eq_true, if_false]
      refine (List.filter_eq_self.2 fun e he => ?_).symm
      have := hu1 e he
      rw [same_trans hs, same_comm] at this
      simp [this]

/-- What the document's Change lets go. -/
def goneL (L G : List Ac) : List Ac := G.foldl (fun l x => l.filter fun a => !a.same x) L
/-- What it lets come. -/
def comeL (L C : List Ac) : List Ac := C.foldl (fun l x => if l.any (fun a => a.same x) then l else l ++ [x]) L

theorem PRel.drop {l : List En} {L F : List Ac} (h : PRel l L F) (x : Ac) : PRel (dropped l x) (L.filter fun a => !a.same x) (F.filter fun a => !a.same x) := by
  rw [filter_same h.uniq]
  refine ⟨h.uniq.sublist List.filter_sublist, ?_, fun e he => ?_, fun f hf => ?_⟩
  · have h1 := h.perm.filter (fun c => !sameC c x.co)
    rw [List.filter_map, List.filter_map] at h1
    exact h1
  · obtain ⟨he1, he2⟩ := List.mem_filter.1 he
    rw [h.fired e he1]
    unfold anyC
    rw [Bool.eq_iff_iff, List.any_eq_true, List.any_eq_true]
    constructor
    · rintro ⟨d, hd, hs⟩
      obtain ⟨f, hf, rfl⟩ := List.mem_map.1 hd
      refine ⟨f.co, List.mem_map.2 ⟨f, List.mem_filter.2 ⟨hf, ?_⟩, rfl⟩, hs⟩
      have : f.same x = e.ac.same x := sameC_trans hs x.co
      rw [this]; exact he2
    · rintro ⟨d, hd, hs⟩
      obtain ⟨f, hf, rfl⟩ := List.mem_map.1 hd
      exact ⟨f.co, List.mem_map.2 ⟨f, (List.mem_filter.1 hf).1, rfl⟩, hs⟩
  · obtain ⟨hf1, hf2⟩ := List.mem_filter.1 hf
    have h1 := h.sub f hf1
    unfold anyC at h1 ⊢
    obtain ⟨d, hd, hs⟩ := List.any_eq_true.1 h1
    obtain ⟨a, ha, rfl⟩ := List.mem_map.1 hd
    refine List.any_eq_true.2 ⟨a.co, List.mem_map.2 ⟨a, List.mem_filter.2 ⟨ha, ?_⟩, rfl⟩, hs⟩
    have : a.same x = f.same x := sameC_trans hs x.co
    rw [this]; exact hf2
theorem PRel.dropAll {G : List Ac} : ∀ {l : List En} {L F : List Ac}, PRel l L F → PRel (G.foldl dropped l) (goneL L G) (goneL F G) := by
  induction G with
  | nil => exact fun h => h
  | cons x G ih => exact fun h => ih (h.drop x)

theorem PRel.lay {l l' : List En} {L F : List Ac} (h : PRel l L F) {x z : Ac} (hz : x.co = z.co) (hl : LaidAs l x l') : PRel l' (if L.any (fun a => a.same z) then L else L ++ [z]) F := by
  rw [← h.has hz]
  rcases hl with ⟨rfl, hh⟩ | ⟨hh, i, y, hi, hy, rfl⟩
  · rw [show hasE l' x = true from hh]
    exact h
  · rw [show hasE l x = false from hh]
    simp only [Bool.false_eq_true, if_false]
    have hp := laid_perm l i ⟨y, false⟩
    refine ⟨LaidAs.uniq (.inr ⟨hh, i, y, hi, hy, rfl⟩) h.uniq, ?_, fun e he => ?_, fun f hf => ?_⟩
    · refine (hp.map fun e => e.ac.co).trans ?_
      rw [List.map_append]
      refine List.Perm.trans ?_ List.perm_append_comm
      show (y.co :: _).Perm _
      rw [hy, hz]
      exact h.perm.cons _
    · rcases List.mem_cons.1 (hp.mem_iff.1 he) with rfl | he
      · show false = anyC (F.map Ac.co) y.co
        rw [hy, ← anyL, ← h.isFired (x := x) rfl, firedE_no hh]
      · exact h.fired e he
    · have := h.sub f hf
      unfold anyC at this ⊢
      rw [List.map_append, List.any_append, this]
      rfl
theorem PRel.layAll {l : List En} {C : List Ac} {l' : List En} (hl : LaidAll l C l') : ∀ {D L F : List Ac}, D.map Ac.co = C.map Ac.co → PRel l L F → PRel l' (comeL L D) F := by
  induction hl with
  | nil =>
    intro D L F hD h
    have : D = [] := by simpa using hD
    subst this
    exact h
  | snoc h1 h2 ih =>
    rename_i xs l1 l2 x
    intro D L F hD h
    rw [List.map_append] at hD
    obtain ⟨D1, D2, rfl, e1, e2⟩ := List.map_eq_append_iff.1 hD
    obtain ⟨z, t, rfl, h1', h2'⟩ := List.map_eq_cons_iff.1 e2
    obtain rfl : t = [] := by simpa using h2'
    have hz : x.co = z.co := h1'.symm
    unfold comeL
    rw [List.foldl_append]
    exact PRel.lay (ih e1 h) hz h2

theorem fireAt_mem {l : List En} {x : Ac} (hu : Uniq l) : ∀ e ∈ fireAt l x, ∃ f ∈ l, f.ac = e.ac ∧ e.fired = (f.fired || f.ac.same x) := by
  induction l with
  | nil => intro e he; simp [fireAt] at he
  | cons a l ih =>
    obtain ⟨hu1, hu2⟩ := List.pairwise_cons.1 hu
    intro e he
    rw [fireAt_cons] at he
    cases hs : a.ac.same x with
    | true =>
      rw [hs] at he
      rcases List.mem_cons.1 he with rfl | he
      · exact ⟨a, .head _, rfl, by rw [hs, Bool.or_true]; rfl⟩
      · refine ⟨e, .tail _ he, rfl, ?_⟩
        have := hu1 e he
        rw [same_trans hs, same_comm] at this
        rw [this, Bool.or_false]
    | false =>
      rw [hs] at he
      rcases List.mem_cons.1 he with rfl | he
      · exact ⟨e, .head _, rfl, by rw [hs, Bool.or_false]⟩
      · obtain ⟨f, hf, h1, h2⟩ := ih hu2 e he
        exact ⟨f, .tail _ hf, h1, h2⟩

theorem PRel.fire {l : List En} {L F : List Ac} (h : PRel l L F) {x z : Ac} (hz : x.co = z.co) :
    (hasE l x && !firedE l x) = ((L.any fun a => a.same z) && !(F.any fun a => a.same z)) ∧ PRel (if hasE l x && !firedE l x then fireAt l x else l) L (if (L.any fun a => a.same z) && !(F.any fun a => a.same z) then F ++ [z] else F) := by
  have h1 := h.has hz
  have h2 := h.isFired hz
  rw [← h1, ← h2]
  refine ⟨rfl, ?_⟩
  split
  · rename_i hc
    rw [Bool.and_eq_true] at hc
    refine ⟨uniq_acs (fireAt_acs l x) h.uniq, ?_, fun e he => ?_, fun f hf => ?_⟩
    · have : (fireAt l x).map (fun e => e.ac.co) = l.map (fun e => e.ac.co) := by
        have := congrArg (List.map Ac.co) (fireAt_acs l x)
        simpa [List.map_map, Function.comp_def] using this
      rw [this]
      exact h.perm
    · obtain ⟨f, hf, e1, e2⟩ := fireAt_mem h.uniq e he
      rw [e2, h.fired f hf, ← e1]
      unfold anyC
      rw [List.map_append, List.any_append]
      congr 1
      simp only [List.map_cons, List.map_nil, List.any_cons, List.any_nil, Bool.or_false]
      rw [← hz, sameC_comm]
      rfl
    · rcases List.mem_append.1 hf with hf | hf
      · exact h.sub f hf
      · simp only [List.mem_singleton] at hf
        subst hf
        rw [← hz, ← anyC_perm h.perm, ← hasE_co]
        exact hc.1
  · exact h

theorem sortC_perm_eq (s : Int) {a b : List Co} (h : a.Perm b) : sortC s a = sortC s b := (sortC_unique s ((sortC_perm s b).trans h.symm) (sortC_sorted s b)).symm

theorem PRel.open {l : List En} {L F : List Ac} (h : PRel l L F) (s : Int) : sortC s ((l.filter fun e => !e.fired).map fun e => e.ac.co) = sortC s ((openR L F).map Ac.co) := by
  refine sortC_perm_eq s ?_
  have h1 : (l.filter fun e => !e.fired) = l.filter fun e => !anyC (F.map Ac.co) e.ac.co := List.filter_congr fun e he => by rw [h.fired e he]
  have h2 : openR L F = L.filter fun a => !anyC (F.map Ac.co) a.co := by
    unfold openR
    congr 1
    funext a
    rw [anyL]
  rw [h1, h2]
  have h3 := h.perm.filter (fun c => !anyC (F.map Ac.co) c)
  rw [List.filter_map, List.filter_map] at h3
  exact h3
theorem PRel.all {l : List En} {L F : List Ac} (h : PRel l L F) (s : Int) : sortC s (l.map fun e => e.ac.co) = sortC s (L.map Ac.co) := sortC_perm_eq s h.perm
end Go.Proofs.Ytelgajgghgknnaa
