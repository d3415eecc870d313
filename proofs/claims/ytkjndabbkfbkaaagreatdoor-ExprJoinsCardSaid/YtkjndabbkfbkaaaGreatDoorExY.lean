/- ExprJoins, the plain law: two texts in parentheses with an operator between. -/
import Derived.Test.YtkjndabbkfbkaaaGreatDoorExX
namespace Go.Proofs.YtkjndabbkfbkaaaGreatDoor
open Go Go.RowKit Go.Lib Go.Sort Go.Shelf

/-- The operators: as they are written, their numbers, their levels. -/
def signs12 : List (List UInt8 × Int × Nat) :=
  [([111, 114], 4, 0), ([97, 110, 100], 5, 1), ([61], 7, 3), ([60, 62], 8, 3), ([60], 9, 3), ([60, 61], 10, 3), ([62], 11, 3), ([62, 61], 12, 3), ([43], 13, 4), ([45], 14, 4), ([42], 15, 5), ([47], 16, 5)]
/-- An operator's word. -/
def signK (s : List UInt8) : Int := if s = [111, 114] ∨ s = [97, 110, 100] then 1 else 7
def signT (s : List UInt8) (t : Tkn) : Prop := t.w = ⟨signK s, s, v0⟩
theorem sign_is {s : List UInt8} {t : Tkn} (h : signT s t) (r : List Tkn) (u : List UInt8) : isH u (t :: r) = decide (s = u) := by
  unfold signT at h
  show (decide (t.w.t = u) && (decide (t.w.k = 1) || decide (t.w.k = 7))) = _
  rw [h]
  show (decide (s = u) && (decide (signK s = 1) || decide (signK s = 7))) = _
  have : (decide (signK s = 1) || decide (signK s = 7)) = true := by
    unfold signK
    split <;> rfl
  rw [this, Bool.and_true]
/-- An operator's number at its level, none at the others. -/
theorem sign_infix {x : List UInt8 × Int × Nat} (hx : x ∈ signs12) {t : Tkn} (h : signT x.1 t) (r : List Tkn) (n : Nat) : infixH (t :: r) (opsL n) = if n = x.2.2 then x.2.1 else 0 := by
  have key : ∀ l : List (List UInt8 × Int), infixH (t :: r) l = (l.find? fun y => decide (x.1 = y.1)).elim 0 Prod.snd := fun l => by
    induction l with
    | nil => rfl
    | cons y l ih =>
      unfold infixH
      rw [sign_is h, List.find?_cons]
      by_cases e : x.1 = y.1
      · rw [if_pos (by simpa using e)]
        simp [e]
      · rw [if_neg (by simpa using e), ih]
        simp [e]
  rw [key]
  clear key h
  by_cases h5 : n ≤ 5
  · revert n
    revert x
    decide
  · rw [opsL_none (by omega)]
    have : n ≠ x.2.2 := by
      have : x.2.2 ≤ 5 := by
        revert x
        decide
      omega
    rw [if_neg this]
    rfl
/-- Up the levels from one to another. -/
theorem up_from {r : List Tkn} {d : Nat} {a : Ex} {post : List Tkn} (hpre : ∀ n, isH (preW n) r = false) (m m' : Nat) (hm7 : m' ≤ 7) (hpost : ∀ n, m ≤ n → n < m' → infixH post (opsL n) = 0) : ∀ (k n : Nat), n + k = m' → m ≤ n → lvlE m' d r = .ok (a, post) → lvlE n d r = .ok (a, post)
  | 0, n, hk, _, h => by
    rw [show n = m' by omega]
    exact h
  | k + 1, n, hk, hm, h => by
    have ih := up_from hpre m m' hm7 hpost k (n + 1) (by omega) (by omega) h
    by_cases h26 : n = 2 ∨ n = 6
    · rw [lvlE_pre h26, hpre n, if_neg (by decide)]
      exact ih
    · rw [lvlE_row (by omega) (by omega), ih]
      simp only [ExR.next]
      rw [rowE_eq, if_pos (hpost n hm (by omega))]
theorem sign_post {x : List UInt8 × Int × Nat} (hx : x ∈ signs12) : x.2.2 ≤ 5 ∧ x.2.2 ≠ 2 ∧ x.2.1 ≠ 0 := by
  revert x
  decide
/-- The words of two texts in parentheses with an operator between: the tree of both, or it is too deep. -/
theorem joins_tree {x : List UInt8 × Int × Nat} (hx : x ∈ signs12) {p1 s1 o p2 s2 : Tkn} (h1 : openT p1) (h2 : shutT s1) (h3 : signT x.1 o) (h4 : openT p2) (h5 : shutT s2) {ts us ts' us' : List Tkn} {a b : Ex} (ha : lvlE 0 0 ts = .ok (a, [])) (hb : lvlE 0 0 ts' = .ok (b, [])) (hu : us.map Tkn.w = ts.map Tkn.w) (hu' : us'.map Tkn.w = ts'.map Tkn.w) :
    (∃ q, lvlE 0 0 (p1 :: (us ++ s1 :: (o :: p2 :: (us' ++ [s2])))) = .error (12, q)) ∨
    ∃ a' b' l c, lvlE 0 0 (p1 :: (us ++ s1 :: (o :: p2 :: (us' ++ [s2])))) = .ok (.mk ⟨x.2.1, v0, [], l, c⟩ [a', b'], []) ∧ a'.bare = a.bare ∧ b'.bare = b.bare := by
  obtain ⟨k1, k2, k3⟩ := sign_post hx
  rcases paren_atom h1 h2 (post := o :: p2 :: (us' ++ [s2])) ha hu 0 with ⟨q, e⟩ | ⟨a', e, hba⟩
  · exact .inl ⟨q, up_error (fun n => open_pre h1 _ n) 7 0 rfl e⟩
  · have e1 := up_levels (fun n => open_pre h1 _ n) (x.2.2 + 1) (fun n hn => by rw [sign_infix hx h3, if_neg (by omega)]) (7 - (x.2.2 + 1)) (x.2.2 + 1) (by omega) (Nat.le_refl _) e
    rcases paren_atom h4 h5 (post := []) hb hu' 0 with ⟨q, g⟩ | ⟨b', g, hbb⟩
    · have g1 := up_error (fun n => open_pre h4 _ n) (7 - (x.2.2 + 1)) (x.2.2 + 1) (by omega) g
      have e2 : lvlE x.2.2 0 (p1 :: (us ++ s1 :: (o :: p2 :: (us' ++ [s2])))) = .error (12, q) := by
        rw [lvlE_row k1 k2, e1]
        simp only [ExR.next]
        rw [rowE_eq, if_neg (by rw [sign_infix hx h3, if_pos rfl]; exact k3), List.tail_cons, g1]
        rfl
      refine .inl ⟨q, ?_⟩
      have up : ∀ (k n : Nat), n + k = x.2.2 → lvlE n 0 (p1 :: (us ++ s1 :: (o :: p2 :: (us' ++ [s2])))) = .error (12, q) := fun k => by
        induction k with
        | zero => intro n hn; rw [show n = x.2.2 by omega]; exact e2
        | succ k ih =>
          intro n hn
          have := ih (n + 1) (by omega)
          by_cases h26 : n = 2 ∨ n = 6
          · rw [lvlE_pre h26, open_pre h1 _ n, if_neg (by decide)]
            exact this
          · rw [lvlE_row (by omega) (by omega), this]
            rfl
      exact up x.2.2 0 (by omega)
    · have g1 := up_levels (fun n => open_pre h4 _ n) 0 (fun n _ => infix_nil _) (7 - (x.2.2 + 1)) (x.2.2 + 1) (by omega) (by omega) g
      have e2 : lvlE x.2.2 0 (p1 :: (us ++ s1 :: (o :: p2 :: (us' ++ [s2])))) = .ok (.mk ⟨x.2.1, v0, [], (plH (o :: p2 :: (us' ++ [s2]))).1, (plH (o :: p2 :: (us' ++ [s2]))).2⟩ [a', b'], []) := by
        rw [lvlE_row k1 k2, e1]
        simp only [ExR.next]
        rw [rowE_eq, if_neg (by rw [sign_infix hx h3, if_pos rfl]; exact k3), List.tail_cons, g1]
        simp only [ExR.next]
        rw [sign_infix hx h3, if_pos rfl]
        by_cases hn3 : x.2.2 = 3
        · rw [if_pos hn3]
        · rw [if_neg hn3, rowE_eq, if_pos (infix_nil _)]
      exact .inr ⟨a', b', _, _, up_from (fun n => open_pre h1 _ n) 0 x.2.2 (by omega) (fun n _ _ => infix_nil _) x.2.2 0 (by omega) (Nat.le_refl _) e2, hba, hbb⟩
theorem shut_LX (r : List UInt8) (hs : Stop r) (a b : Int) : LX (41 :: r) a b = consW ⟨⟨7, [41], v0⟩, a, b⟩ (LX r a (b + 1)) := by
  have h : wordL [41] = .ok (⟨7, [41], v0⟩, 1) := rfl
  have h2 : wordL (41 :: r) = .ok (⟨7, [41], v0⟩, 1) := wordL_again h hs
  rw [LX_word ⟨by decide, by decide, by decide⟩ h2]
  rfl
theorem sign_word {x : List UInt8 × Int × Nat} (hx : x ∈ signs12) : wordL x.1 = .ok (⟨signK x.1, x.1, v0⟩, x.1.length) ∧ ∃ c r, x.1 = c :: r ∧ begC c := by
  unfold begC
  simp only [signs12, List.mem_cons, List.not_mem_nil, or_false] at hx
  rcases hx with rfl | rfl | rfl | rfl | rfl | rfl | rfl | rfl | rfl | rfl | rfl | rfl <;> exact ⟨rfl, _, _, rfl, by decide⟩
theorem sign_LX {x : List UInt8 × Int × Nat} (hx : x ∈ signs12) (r : List UInt8) (hs : Stop r) (a b : Int) : LX (x.1 ++ r) a b = consW ⟨⟨signK x.1, x.1, v0⟩, a, b⟩ (LX r a (b + (x.1.length : Nat))) := by
  obtain ⟨h, c, q, e, hc⟩ := sign_word hx
  have h2 := wordL_again h hs
  rw [List.take_length] at h2
  rw [e] at h2 ⊢
  rw [List.cons_append] at h2 ⊢
  rw [LX_word hc h2, ← List.cons_append, List.drop_left]
theorem stop_blank (r : List UInt8) : Stop (32 :: r) := fun c h => .inr (by simpa using h.symm)
/-- The bytes of two texts in parentheses with an operator between. -/
def joinT (l o m : List UInt8) : List UInt8 := 40 :: (l ++ 10 :: 41 :: 32 :: (o ++ 32 :: 40 :: (m ++ [10, 41])))
theorem joins_words {x : List UInt8 × Int × Nat} (hx : x ∈ signs12) {l m : List UInt8} {ts ts' : List Tkn} (h : lexL l = .ok ts) (h' : lexL m = .ok ts') :
    ∃ p1 us s1 o p2 us' s2, lexL (joinT l x.1 m) = .ok (p1 :: (us ++ s1 :: (o :: p2 :: (us' ++ [s2])))) ∧ openT p1 ∧ shutT s1 ∧ signT x.1 o ∧ openT p2 ∧ shutT s2 ∧ us.map Tkn.w = ts.map Tkn.w ∧ us'.map Tkn.w = ts'.map Tkn.w := by
  obtain ⟨us, h1, h2⟩ := LX_words _ l 1 1 1 2 ts (Nat.le_refl _) h
  obtain ⟨us', h3, h4⟩ := LX_words _ m 1 1 (1 + (l.count 10 : Nat) + 1) (1 + 1 + 1 + (x.1.length : Nat) + 1 + 1) ts' (Nat.le_refl _) h'
  have e : lexL (joinT l x.1 m) = .ok (⟨⟨7, [40], v0⟩, 1, 1⟩ :: (us ++ ⟨⟨7, [41], v0⟩, 1 + (l.count 10 : Nat) + 1, 1⟩ :: (⟨⟨signK x.1, x.1, v0⟩, 1 + (l.count 10 : Nat) + 1, 1 + 1 + 1⟩ :: ⟨⟨7, [40], v0⟩, 1 + (l.count 10 : Nat) + 1, 1 + 1 + 1 + (x.1.length : Nat) + 1⟩ :: (us' ++ [⟨⟨7, [41], v0⟩, 1 + (l.count 10 : Nat) + 1 + (m.count 10 : Nat) + 1, 1⟩])))) := by
    unfold joinT
    rw [lexL_LX, LX_paren, show (1 : Int) + 1 = 2 from rfl, h1, shut_LX _ (stop_blank _), LX_blank, sign_LX hx _ (stop_blank _), LX_blank, show [10, 41] = (10 : UInt8) :: [41] from rfl, LX_paren, h3, LX_shut]
    rfl
  exact ⟨_, us, _, _, _, us', _, e, rfl, rfl, rfl, rfl, rfl, h2, h4⟩
theorem joins_read {x : List UInt8 × Int × Nat} (hx : x ∈ signs12) {l m : List UInt8} {a b : Ex} (h : readL l = .ok a) (h' : readL m = .ok b) :
    (∃ p q, readL (joinT l x.1 m) = .error (p, q) ∧ (q = 12 ∨ q = 7 ∧ 60 < a.size + b.size + 1)) ∨
    ∃ a' b' y z, readL (joinT l x.1 m) = .ok (.mk ⟨x.2.1, v0, [], y, z⟩ [a', b']) ∧ a'.bare = a.bare ∧ b'.bare = b.bare ∧ a.size + b.size + 1 ≤ 60 := by
  obtain ⟨ts, t1, t2, _⟩ := readL_ok h
  obtain ⟨ts', t3, t4, _⟩ := readL_ok h'
  obtain ⟨p1, us, s1, o, p2, us', s2, e, g1, g2, g3, g4, g5, g6, g7⟩ := joins_words hx t1 t3
  rcases joins_tree hx g1 g2 g3 g4 g5 t2 t4 g6 g7 with ⟨q, e2⟩ | ⟨a', b', y, z, e2, e3, e4⟩
  · refine .inl ⟨placeE (p1 :: (us ++ s1 :: (o :: p2 :: (us' ++ [s2])))) q, 12, ?_, .inl rfl⟩
    simp only [readL, e, e2]
  · have z1 := size_bare e3
    have z2 := size_bare e4
    have z3 : (Ex.mk ⟨x.2.1, v0, [], y, z⟩ [a', b']).size = a.size + b.size + 1 := by
      rw [Ex.size, sizes, sizes, sizes]
      omega
    by_cases h60 : 60 < a.size + b.size + 1
    · refine .inl ⟨placeE (p1 :: (us ++ s1 :: (o :: p2 :: (us' ++ [s2])))) (p1 :: (us ++ s1 :: (o :: p2 :: (us' ++ [s2])))), 7, ?_, .inr ⟨rfl, h60⟩⟩
      simp only [readL, e, e2]
      rw [if_pos (by omega)]
    · refine .inr ⟨a', b', y, z, ?_, e3, e4, by omega⟩
      simp only [readL, e, e2]
      rw [if_neg (by omega), if_pos trivial]
/-- The two tables, as they lie. -/
theorem table_get (W : World) (p q : Nat) (hS : W.heap[p]? = some (.cells #[.string ⟨#[111, 114]⟩, .string ⟨#[97, 110, 100]⟩, .string ⟨#[61]⟩, .string ⟨#[60, 62]⟩, .string ⟨#[60]⟩, .string ⟨#[60, 61]⟩, .string ⟨#[62]⟩, .string ⟨#[62, 61]⟩, .string ⟨#[43]⟩, .string ⟨#[45]⟩, .string ⟨#[42]⟩, .string ⟨#[47]⟩] 9 (0, 0)))
    (hO : W.heap[q]? = some (.cells #[.int .u8 4, .int .u8 5, .int .u8 7, .int .u8 8, .int .u8 9, .int .u8 10, .int .u8 11, .int .u8 12, .int .u8 13, .int .u8 14, .int .u8 15, .int .u8 16] 5 (0, 0))) (k : Nat) (hk : k < 12) :
    ∃ x, x ∈ signs12 ∧ W.cell? ⟨p, k, none⟩ = some (.string ⟨x.1.toArray⟩) ∧ W.cell? ⟨q, k, none⟩ = some (.int .u8 x.2.1) ∧ x.1.length ≤ 3 := by
  have h3 : ∀ x ∈ signs12, x.1.length ≤ 3 := by decide
  have hk' : k < signs12.length := hk
  refine ⟨signs12[k], List.getElem_mem _, ?_⟩
  rw [← and_assoc]
  refine ⟨?_, h3 _ (List.getElem_mem _)⟩
  simp only [World.cell?, hS, hO]
  rcases k with _ | _ | _ | _ | _ | _ | _ | _ | _ | _ | _ | _ | k
  · exact ⟨rfl, rfl⟩
  · exact ⟨rfl, rfl⟩
  · exact ⟨rfl, rfl⟩
  · exact ⟨rfl, rfl⟩
  · exact ⟨rfl, rfl⟩
  · exact ⟨rfl, rfl⟩
  · exact ⟨rfl, rfl⟩
  · exact ⟨rfl, rfl⟩
  · exact ⟨rfl, rfl⟩
  · exact ⟨rfl, rfl⟩
  · exact ⟨rfl, rfl⟩
  · exact ⟨rfl, rfl⟩
  · omega
end Go.Proofs.YtkjndabbkfbkaaaGreatDoor
