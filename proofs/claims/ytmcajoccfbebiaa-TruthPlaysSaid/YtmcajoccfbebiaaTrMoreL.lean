/- TruthMore: the plain law. -/
import Derived.Test.YtmcajoccfbebiaaTrWd
import Derived.Test.YtmcajoccfbebiaaTrAmong
namespace Go.Proofs.Ytmcajoccfbebiaa
open Go Go.RowKit Go.MapKept Go.Sort

/-- What Lost tells of a book. -/
def LostOf (M : List Sp) (ll : List Int) : Prop := ∃ P : Int → Bool, (∀ x ∈ idsS M, P x = true ↔ Held M x) ∧ ll = (idsS M).filter fun x => !P x
theorem LostOf.mem {M : List Sp} {ll : List Int} (h : LostOf M ll) {x : Int} : x ∈ ll ↔ x ∈ M.map Sp.id ∧ ¬ Held M x := by
  obtain ⟨P, hP, rfl⟩ := h
  rw [List.mem_filter, mem_ids]
  refine and_congr_right fun hx => ?_
  rw [← hP x (mem_ids.2 hx)]
  simp
theorem LostOf.eq {M : List Sp} {ll ll' : List Int} (h : LostOf M ll) (h' : LostOf M ll') : ll = ll' := by
  obtain ⟨P, hP, hl⟩ := h
  obtain ⟨P', hP', hl'⟩ := h'
  exact lost_eq rfl (fun _ => Iff.rfl) hP hl hP' hl'
theorem held_put {M : List Sp} {q : Sp} (hp : (getD M q.id).plain = true → q.plain = true) (hc : ∀ c ∈ (getD M q.id).js.map Jc.co, c ∈ q.js.map Jc.co) {x : Int} (h : Held M x) : Held (putS M q) x := by
  refine held_congr (fun y hy => ?_) (fun y c hcm => ?_) h
  · rw [getD_put]
    split
    · rename_i e
      subst e
      exact hp hy
    · exact hy
  · refine ⟨c, ?_, rfl⟩
    rw [getD_put]
    split
    · rename_i e
      subst e
      exact hc c hcm
    · exact hcm
theorem more_put {M : List Sp} {q : Sp} {was now : List Int} (hp : (getD M q.id).plain = true → q.plain = true) (hc : ∀ c ∈ (getD M q.id).js.map Jc.co, c ∈ q.js.map Jc.co) (h1 : LostOf M was) (h2 : LostOf (putS M q) now) : amongB now (q.id :: was) = true := by
  refine amongB_true fun x hx => ?_
  obtain ⟨hm, hn⟩ := h2.mem.1 hx
  rcases (mem_put_ids M q x).1 hm with hm | e
  · exact .tail _ (h1.mem.2 ⟨hm, fun hh => hn (held_put hp hc hh)⟩)
  · rw [← e]
    exact .head _
theorem more_plain {M : List Sp} {id : Int} {v : Value} {was now : List Int} (hid : id ∈ M.map Sp.id) (h1 : LostOf M was) (h2 : LostOf (putS M ⟨id, true, (getD M id).js, v⟩) now) : amongB now was = true := by
  refine amongB_true fun x hx => ?_
  obtain ⟨hm, hn⟩ := h2.mem.1 hx
  have hm' : x ∈ M.map Sp.id := by
    rcases (mem_put_ids M _ x).1 hm with hm | e
    · exact hm
    · rw [← e]
      exact hid
  exact h1.mem.2 ⟨hm', fun hh => hn (held_put (q := ⟨id, true, (getD M id).js, v⟩) (fun _ => rfl) (fun c hc => hc) hh)⟩
theorem plain_not_lost {M : List Sp} {id : Int} {v : Value} {js : List Jc} {now : List Int} (h2 : LostOf (putS M ⟨id, true, js, v⟩) now) {x : Int} (hx : x ∈ now) : x ≠ id := by
  rintro rfl
  refine (h2.mem.1 hx).2 (.plain ?_)
  rw [getD_put, if_pos rfl]
theorem more_with {M M' : List Sp} {J : Jc} {S : Int → Bool} {was now : List Int} (h : Wdp M M' J S) (h1 : LostOf M was) (h2 : LostOf M' now) : amongB was now = true := by
  refine amongB_true fun x hx => ?_
  obtain ⟨hm, hn⟩ := h1.mem.1 hx
  refine h2.mem.2 ⟨by rw [h.ids]; exact hm, fun hh => hn ?_⟩
  refine held_congr (fun y hy => by rwa [h.plain] at hy) (fun y c hc => ⟨c, ?_, rfl⟩) hh
  rw [h.co] at hc
  split at hc
  · exact (List.mem_filter.1 hc).1
  · exact hc
end Go.Proofs.Ytmcajoccfbebiaa
