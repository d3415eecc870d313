/- The plain law of slices.SortStableFunc: what its parts do to a row. No program is named. -/
import Derived.Sort.LotA
namespace Go.Proofs.Ytelgajgghgknnaa
open Go Go.Sort

section
variable {α : Type} [Inhabited α]

/-- Where what lies at i behind 'x u v y' to 'x v u y' came from; u is [a, m), v is [m, b). -/
def rotIx (a m b i : Nat) : Nat := if i < a ∨ b ≤ i then i else if i < a + (b - m) then i + (m - a) else i - (b - m)
/-- Where what lies at i behind the exchange of [a, a + n) and [b, b + n) came from. -/
def swrIx (a b n i : Nat) : Nat := if a ≤ i ∧ i < a + n then i - a + b else if b ≤ i ∧ i < b + n then i - b + a else i

/-- d' is d read at other places. -/
def Moved (f : Nat → Nat) (d d' : Array α) : Prop := d'.size = d.size ∧ ∀ i, d'[i]! = d[f i]!

theorem Moved.refl (d : Array α) : Moved (fun i => i) d d := ⟨rfl, fun _ => rfl⟩
theorem Moved.congr {f g : Nat → Nat} {d d' : Array α} (h : Moved f d d') (e : ∀ i, f i = g i) : Moved g d d' := ⟨h.1, fun i => by rw [h.2 i, e i]⟩
theorem Moved.trans {f g : Nat → Nat} {d d' d'' : Array α} (h : Moved f d d') (k : Moved g d' d'') : Moved (fun i => f (g i)) d d'' := ⟨k.1.trans h.1, fun i => by rw [k.2 i, h.2 (g i)]⟩

theorem moved_swp (d : Array α) {i j : Nat} (hi : i < d.size) (hj : j < d.size) : Moved (fun x => if x = j then i else if x = i then j else x) d (swp d i j) := by
  refine ⟨swp_size d i j, fun k => ?_⟩
  rw [swp_get d hi hj k]
  by_cases h1 : k = j
  · simp [h1]
  · by_cases h2 : k = i
    · subst h2
      simp [h1]
    · simp [h1, h2]

theorem swr_step (d d' : Array α) {a b n : Nat} (h : Moved (swrIx a b n) d d') (hab : a + n < b) (hb : b + n < d.size) : Moved (swrIx a b (n + 1)) d (swp d' (a + n) (b + n)) := by
  have hs := moved_swp d' (i := a + n) (j := b + n) (by rw [h.1]; omega) (by rw [h.1]; omega)
  refine (h.trans hs).congr fun x => ?_
  unfold swrIx
  repeat' split
  all_goals omega

theorem swr_zero (d : Array α) (a b : Nat) : Moved (swrIx a b 0) d d := (Moved.refl d).congr fun i => by unfold swrIx; split <;> (try split) <;> omega

theorem rot_left (m i j x : Nat) (hi : i ≤ m) (hji : j < i) : swrIx (m - i) m j (rotIx (m - (i - j)) m (m + j) x) = rotIx (m - i) m (m + j) x := by
  unfold swrIx rotIx
  repeat' split
  all_goals omega
theorem rot_right (m i j x : Nat) (hi : i ≤ m) (hij : i < j) : swrIx (m - i) (m + j - i) i (rotIx (m - i) m (m + (j - i)) x) = rotIx (m - i) m (m + j) x := by
  unfold swrIx rotIx
  repeat' split
  all_goals omega
theorem rot_last (m i x : Nat) (hi : i ≤ m) : swrIx (m - i) m i x = rotIx (m - i) m (m + i) x := by
  unfold swrIx rotIx
  repeat' split
  all_goals omega
theorem rot_none1 (m b x : Nat) : rotIx m m b x = x := by
  unfold rotIx
  repeat' split
  all_goals omega
theorem rot_none2 (a m x : Nat) : rotIx a m m x = x := by
  unfold rotIx
  repeat' split
  all_goals omega

theorem rot_front_step (d dk : Array α) {a k : Nat} (h : Moved (rotIx a (a + 1) (k + 1)) d dk) (hak : a ≤ k) (hk : k + 1 < d.size) : Moved (rotIx a (a + 1) (k + 1 + 1)) d (swp dk k (k + 1)) := by
  refine (h.trans (moved_swp dk (i := k) (j := k + 1) (by rw [h.1]; omega) (by rw [h.1]; omega))).congr fun x => ?_
  unfold rotIx
  repeat' split
  all_goals omega
theorem rot_back_step (d dk : Array α) {m k : Nat} (h : Moved (rotIx (k + 1) m (m + 1)) d dk) (hkm : k + 1 ≤ m) (hm : m < d.size) : Moved (rotIx k m (m + 1)) d (swp dk (k + 1) k) := by
  refine (h.trans (moved_swp dk (i := k + 1) (j := k) (by rw [h.1]; omega) (by rw [h.1]; omega))).congr fun x => ?_
  unfold rotIx
  repeat' split
  all_goals omega

theorem get_extract {d : Array α} {a b i : Nat} (hi : a + i < b) (hb : b ≤ d.size) : (d.extract a b)[i]? = some d[a + i]! := by
  rw [Array.getElem?_extract]
  rw [if_pos (by omega), getElem!_pos d (a + i) (by omega), Array.getElem?_eq_getElem (by omega)]

theorem perm_rot {d d' : Array α} {a m b : Nat} (h : Moved (rotIx a m b) d d') (h1 : a ≤ m) (h2 : m ≤ b) (hb : b ≤ d.size) : PermIn a b d d' := by
  refine ⟨h.1, fun i hi => by rw [h.2 i]; unfold rotIx; rw [if_pos hi], ?_⟩
  have e1 : (d'.extract a b).toList = (d.extract m b).toList ++ (d.extract a m).toList := by
    apply List.ext_getElem?
    intro i
    rw [Array.getElem?_toList]
    by_cases hi : i < b - a
    · rw [get_extract (by omega) (by rw [h.1]; exact hb), h.2]
      by_cases hl : i < b - m
      · rw [List.getElem?_append_left (by simp; omega), Array.getElem?_toList, get_extract (by omega) hb]
        unfold rotIx
        rw [if_neg (by omega), if_pos (by omega)]
        congr 2
        omega
      · rw [List.getElem?_append_right (by simp; omega), Array.getElem?_toList]
        simp only [Array.length_toList, Array.size_extract]
        rw [get_extract (by omega) (by omega)]
        unfold rotIx
        rw [if_neg (by omega), if_neg (by omega)]
        congr 2
        omega
    · rw [Array.getElem?_eq_none (by simp; omega), List.getElem?_eq_none (by simp; omega)]
  have e2 : (d.extract a b).toList = (d.extract a m).toList ++ (d.extract m b).toList := by
    rw [← Array.toList_append, Array.extract_append_extract, Nat.min_eq_left h1, Nat.max_eq_right h2]
  rw [e1, e2]
  exact List.perm_append_comm

theorem widen {a b a' b' : Nat} {d d' : Array α} (h : PermIn a b d d') (h1 : a' ≤ a) (h2 : b ≤ b') (h3 : b' ≤ d.size) : PermIn a' b' d d' := permIn_mono d d' a b a' b' h1 h2 h3 h

variable {lt : α → α → Bool}

omit [Inhabited α] in
theorem SWO.le_trans (hS : SWO lt) {x y z : α} (h1 : lt y x = false) (h2 : lt z y = false) : lt z x = false := hS.ntrans z y x h2 h1
omit [Inhabited α] in
theorem SWO.le_lt (hS : SWO lt) {x y z : α} (h1 : lt y x = false) (h2 : lt y z = true) : lt x z = true := by
  cases h : lt x z with
  | true => rfl
  | false => rw [hS.ntrans y x z h1 h] at h2; cases h2
omit [Inhabited α] in
theorem SWO.lt_le (hS : SWO lt) {x y z : α} (h1 : lt x y = true) (h2 : lt z y = false) : lt x z = true := by
  cases h : lt x z with
  | true => rfl
  | false => rw [hS.ntrans x z y h h2] at h1; cases h1

theorem SortedIn.get {a b : Nat} {d : Array α} (hS : SWO lt) (h : SortedIn lt a b d) {i j : Nat} (hi : a ≤ i) (hij : i ≤ j) (hj : j < b) : lt d[j]! d[i]! = false := by
  rcases Nat.eq_or_lt_of_le hij with rfl | q
  · exact hS.irrefl _
  · exact h i j hi q hj

theorem SortedIn.sub {a b a' b' : Nat} {d : Array α} (h : SortedIn lt a b d) (h1 : a ≤ a') (h2 : b' ≤ b) : SortedIn lt a' b' d := fun i j hi hij hj => h i j (by omega) hij (by omega)
theorem SortedIn.same {a b : Nat} {d d' : Array α} (h : SortedIn lt a b d) (e : ∀ i, a ≤ i → i < b → d'[i]! = d[i]!) : SortedIn lt a b d' := fun i j hi hij hj => by rw [e i hi (by omega), e j (by omega) hj]; exact h i j hi hij hj
theorem SortedIn.join {a m b : Nat} {d : Array α} (h1 : SortedIn lt a m d) (h2 : SortedIn lt m b d) (hc : ∀ i j, a ≤ i → i < m → m ≤ j → j < b → lt d[j]! d[i]! = false) : SortedIn lt a b d := fun i j hi hij hj => by
  by_cases q1 : j < m
  · exact h1 i j hi hij q1
  · by_cases q2 : i < m
    · exact hc i j hi q2 (by omega) hj
    · exact h2 i j (by omega) hij hj

/-- What a rotation at the right place leaves: two halves, each of two sorted rows, none of the second below one of the first. -/
structure Parted (lt : α → α → Bool) (a s mid e b : Nat) (d' : Array α) : Prop where
  l1 : SortedIn lt a s d'
  l2 : SortedIn lt s mid d'
  r1 : SortedIn lt mid e d'
  r2 : SortedIn lt e b d'
  cross : ∀ i j, a ≤ i → i < mid → mid ≤ j → j < b → lt d'[j]! d'[i]! = false

theorem parted_of (hS : SWO lt) {a s m e b mid : Nat} {d d' : Array α} (h : Moved (rotIx s m e) d d') (h1 : SortedIn lt a m d) (h2 : SortedIn lt m b d) (has : a ≤ s) (hsm : s ≤ m) (hme : m ≤ e) (heb : e ≤ b) (hmid : mid = s + (e - m))
    (c1 : ∀ i j, a ≤ i → i < s → e ≤ j → j < b → lt d[j]! d[i]! = false) (c2 : ∀ i j, s ≤ i → i < m → m ≤ j → j < e → lt d[i]! d[j]! = false) : Parted lt a s mid e b d' := by
  have x1 : ∀ i, i < s → d'[i]! = d[i]! := fun i hi => by rw [h.2]; unfold rotIx; rw [if_pos (by omega)]
  have x2 : ∀ i, s ≤ i → i < mid → d'[i]! = d[i + (m - s)]! := fun i hi hj => by rw [h.2]; unfold rotIx; rw [if_neg (by omega), if_pos (by omega)]
  have x3 : ∀ i, mid ≤ i → i < e → d'[i]! = d[i - (e - m)]! := fun i hi hj => by rw [h.2]; unfold rotIx; rw [if_neg (by omega), if_neg (by omega)]
  have x4 : ∀ i, e ≤ i → d'[i]! = d[i]! := fun i hi => by rw [h.2]; unfold rotIx; rw [if_pos (by omega)]
  refine ⟨fun i j hi hij hj => ?_, fun i j hi hij hj => ?_, fun i j hi hij hj => ?_, fun i j hi hij hj => ?_, fun i j hi him hmj hjb => ?_⟩
  · rw [x1 i (by omega), x1 j hj]
    exact h1 i j hi hij (by omega)
  · rw [x2 i hi (by omega), x2 j (by omega) hj]
    exact h2 _ _ (by omega) (by omega) (by omega)
  · rw [x3 i hi (by omega), x3 j (by omega) hj]
    exact h1 _ _ (by omega) (by omega) (by omega)
  · rw [x4 i hi, x4 j (by omega)]
    exact h2 i j (by omega) hij hj
  · by_cases q1 : i < s
    · by_cases q2 : j < e
      · rw [x1 i q1, x3 j hmj q2]
        exact SortedIn.get hS h1 hi (by omega) (by omega)
      · rw [x1 i q1, x4 j (by omega)]
        exact c1 i j hi q1 (by omega) hjb
    · by_cases q2 : j < e
      · rw [x2 i (by omega) him, x3 j hmj q2]
        exact c2 _ _ (by omega) (by omega) (by omega) (by omega)
      · rw [x2 i (by omega) him, x4 j (by omega)]
        exact SortedIn.get hS h2 (by omega) (by omega) hjb

/-- Each half is sorted: so is the whole. -/
theorem Parted.whole {a s mid e b : Nat} {d' d1 d2 : Array α} (h : Parted lt a s mid e b d') (_ : a ≤ mid) (_ : mid ≤ b) (hb : b ≤ d'.size) (p1 : PermIn a mid d' d1) (s1 : SortedIn lt a mid d1) (p2 : PermIn mid b d1 d2) (s2 : SortedIn lt mid b d2) : SortedIn lt a b d2 := by
  have hl : ∀ i, a ≤ i → i < mid → d2[i]! = d1[i]! := fun i _ hi => p2.2.1 i (.inl hi)
  have hc1 : ∀ j, mid ≤ j → j < b → ∀ i, a ≤ i → i < mid → lt d1[j]! d1[i]! = false := fun j hj hjb => by
    have e : d1[j]! = d'[j]! := p1.2.1 j (.inr hj)
    rw [e]
    exact permIn_all d' d1 a mid (fun x => lt d'[j]! x = false) (by omega) p1 (fun i hi him => h.cross i j hi him hj hjb)
  refine SortedIn.join (SortedIn.same s1 hl) s2 fun i j hi him hj hjb => ?_
  rw [hl i hi him]
  exact permIn_all d1 d2 mid b (fun x => lt x d1[i]! = false) (by rw [p1.1]; exact hb) p2 (fun j hj hjb => hc1 j hj hjb i hi him) j hj hjb

/-- What a search for the place of the cut has found. -/
theorem parted_of_cut (hS : SWO lt) {a m b s mid st0 r0 : Nat} {d d' : Array α} (hmid : mid = (a + b) / 2) (h1 : SortedIn lt a m d) (h2 : SortedIn lt m b d)
    (h0 : if mid < m then st0 = mid + m - b ∧ r0 = mid else st0 = a ∧ r0 = m) (hs : st0 ≤ s) (hr : s ≤ r0)
    (c1 : s = st0 ∨ lt d[mid + m - s]! d[s - 1]! = false) (c2 : s = r0 ∨ lt d[mid + m - 1 - s]! d[s]! = true) (h : Moved (rotIx s m (mid + m - s)) d d') :
    a ≤ s ∧ s ≤ m ∧ m ≤ mid + m - s ∧ mid + m - s ≤ b ∧ s ≤ mid ∧ mid ≤ mid + m - s ∧ Parted lt a s mid (mid + m - s) b d' := by
  have k : a ≤ s ∧ s ≤ m ∧ m ≤ mid + m - s ∧ mid + m - s ≤ b ∧ s ≤ mid ∧ mid ≤ mid + m - s := by
    split at h0 <;> omega
  obtain ⟨k1, k2, k3, k4, k5, k6⟩ := k
  refine ⟨k1, k2, k3, k4, k5, k6, parted_of hS h h1 h2 k1 k2 k3 k4 (by omega) (fun i j hi his hj hjb => ?_) (fun i j hi him hj hje => ?_)⟩
  · rcases c1 with q | q
    · split at h0 <;> omega
    · refine SWO.le_trans hS (SortedIn.get hS h1 hi (show i ≤ s - 1 by omega) (by omega)) (SWO.le_trans hS q (SortedIn.get hS h2 (by omega) hj hjb))
  · rcases c2 with q | q
    · split at h0 <;> omega
    · have e1 := SWO.lt_le hS q (SortedIn.get hS h1 (show a ≤ s by omega) hi him)
      have e2 := SWO.le_lt hS (SortedIn.get hS h2 hj (show j ≤ mid + m - 1 - s by omega) (by omega)) e1
      exact hS.asymmA e2

/-- One in front of a sorted row, moved to its place. -/
theorem sorted_front (hS : SWO lt) {a b i : Nat} {d d' : Array α} (h2 : SortedIn lt (a + 1) b d) (hi : a + 1 ≤ i) (hib : i ≤ b) (c1 : i = a + 1 ∨ lt d[i - 1]! d[a]! = true) (c2 : i = b ∨ lt d[i]! d[a]! = false) (h : Moved (rotIx a (a + 1) i) d d') : SortedIn lt a b d' := by
  have p := parted_of hS (a := a) (s := a) (m := a + 1) (e := i) (b := b) (mid := i - 1) h (fun p q _ _ _ => by omega) h2 (Nat.le_refl _) (by omega) hi hib (by omega) (fun p q h3 h4 => by omega) (fun p q h3 h4 h5 h6 => by
    obtain rfl : p = a := by omega
    rcases c1 with e | e
    · omega
    · exact hS.asymmA (SWO.le_lt hS (SortedIn.get hS h2 h5 (show q ≤ i - 1 by omega) (by omega)) e))
  have x3 : d'[i - 1]! = d[a]! := by rw [h.2]; unfold rotIx; rw [if_neg (by omega), if_neg (by omega)]; congr 1; omega
  have x4 : ∀ q, i ≤ q → d'[q]! = d[q]! := fun q hq => by rw [h.2]; unfold rotIx; rw [if_pos (by omega)]
  refine SortedIn.join (m := i - 1) p.l2 ?_ p.cross
  refine SortedIn.join (m := i) p.r1 p.r2 fun x y hx hxi hy hyb => ?_
  obtain rfl : x = i - 1 := by omega
  rw [x3, x4 y hy]
  rcases c2 with e | e
  · omega
  · exact SWO.le_trans hS e (SortedIn.get hS h2 (by omega) hy hyb)

/-- One behind a sorted row, moved to its place. -/
theorem sorted_back (hS : SWO lt) {a m i : Nat} {d d' : Array α} (h1 : SortedIn lt a m d) (hi : a ≤ i) (him : i ≤ m) (c1 : i = a ∨ lt d[m]! d[i - 1]! = false) (c2 : i = m ∨ lt d[m]! d[i]! = true) (h : Moved (rotIx i m (m + 1)) d d') : SortedIn lt a (m + 1) d' := by
  have p := parted_of hS (a := a) (s := i) (m := m) (e := m + 1) (b := m + 1) (mid := i + 1) h h1 (fun p q _ _ _ => by omega) hi him (by omega) (Nat.le_refl _) (by omega) (fun p q _ _ _ _ => by omega) (fun p q h3 h4 h5 h6 => by
    obtain rfl : q = m := by omega
    rcases c2 with e | e
    · omega
    · exact hS.asymmA (SWO.lt_le hS e (SortedIn.get hS h1 (by omega) h3 h4)))
  have x1 : ∀ q, q < i → d'[q]! = d[q]! := fun q hq => by rw [h.2]; unfold rotIx; rw [if_pos (by omega)]
  have x2 : d'[i]! = d[m]! := by rw [h.2]; unfold rotIx; rw [if_neg (by omega), if_pos (by omega)]; congr 1; omega
  refine SortedIn.join (m := i + 1) ?_ p.r1 p.cross
  refine SortedIn.join (m := i) p.l1 p.l2 fun x y hx hxi hy hyb => ?_
  obtain rfl : i = y := by omega
  rw [x1 x hxi, x2]
  rcases c1 with e | e
  · omega
  · exact SWO.le_trans hS (SortedIn.get hS h1 hx (show x ≤ i - 1 by omega) (by omega)) e

/-- Each block of c is sorted. -/
def Blocks (lt : α → α → Bool) (c n : Nat) (d : Array α) : Prop := ∀ j, SortedIn lt (j * c) (min (j * c + c) n) d
/-- The first k blocks of c are. -/
def BlocksTo (lt : α → α → Bool) (c k : Nat) (d : Array α) : Prop := ∀ j, j < k → SortedIn lt (j * c) (j * c + c) d
/-- The first k blocks of 2 c are, and behind them those of c. -/
def BlocksMid (lt : α → α → Bool) (c n k : Nat) (d : Array α) : Prop := BlocksTo lt (2 * c) k d ∧ ∀ j, 2 * k ≤ j → SortedIn lt (j * c) (min (j * c + c) n) d

theorem blocksTo_zero (c : Nat) (d : Array α) : BlocksTo lt c 0 d := fun j hj => by omega
theorem blocksTo_step {c k a : Nat} {d d' : Array α} (h : BlocksTo lt c k d) (ha : a = k * c) (hp : PermIn a (a + c) d d') (hs : SortedIn lt a (a + c) d') : BlocksTo lt c (k + 1) d' := fun j hj => by
  rcases (by omega : j = k ∨ j < k) with rfl | q
  · rw [← ha]
    exact hs
  · have h1 : (j + 1) * c ≤ k * c := Nat.mul_le_mul_right c q
    rw [Nat.succ_mul] at h1
    exact SortedIn.same (h j q) fun i _ hi => hp.2.1 i (.inl (by omega))
theorem blocks_of_to {c k a n : Nat} {d d' : Array α} (h : BlocksTo lt c k d) (ha : a = k * c) (hn : n < a + c) (han : a ≤ n) (hp : PermIn a n d d') (hs : SortedIn lt a n d') : Blocks lt c n d' := fun j => by
  rcases (by omega : j = k ∨ j < k ∨ k + 1 ≤ j) with rfl | q | q
  · rw [← ha, Nat.min_eq_right (by omega)]
    exact hs
  · have h1 : (j + 1) * c ≤ k * c := Nat.mul_le_mul_right c q
    rw [Nat.succ_mul] at h1
    rw [Nat.min_eq_left (by omega)]
    exact SortedIn.same (h j q) fun i _ hi => hp.2.1 i (.inl (by omega))
  · have h1 : (k + 1) * c ≤ j * c := Nat.mul_le_mul_right c q
    rw [Nat.succ_mul] at h1
    intro x y hx hxy hy
    omega
theorem blocksMid_start {c n : Nat} {d : Array α} (h : Blocks lt c n d) : BlocksMid lt c n 0 d := ⟨blocksTo_zero _ d, fun j _ => h j⟩
theorem blocksMid_two {c n k a : Nat} {d : Array α} (h : BlocksMid lt c n k d) (ha : a = k * (2 * c)) : SortedIn lt a (min (a + c) n) d ∧ SortedIn lt (a + c) (min (a + c + c) n) d := by
  have e1 : 2 * k * c = a := by rw [ha, Nat.mul_comm 2 k, Nat.mul_assoc]
  have h1 := h.2 (2 * k) (Nat.le_refl _)
  have h2 := h.2 (2 * k + 1) (by omega)
  rw [Nat.succ_mul, e1] at h2
  rw [e1] at h1
  exact ⟨h1, h2⟩
theorem blocksMid_step {c n k a : Nat} {d d' : Array α} (h : BlocksMid lt c n k d) (ha : a = k * (2 * c)) (hp : PermIn a (a + 2 * c) d d') (hs : SortedIn lt a (a + 2 * c) d') : BlocksMid lt c n (k + 1) d' := by
  refine ⟨blocksTo_step h.1 ha hp hs, fun j hj => ?_⟩
  have e1 : 2 * (k + 1) * c = a + 2 * c := by rw [ha, Nat.mul_comm 2 (k + 1), Nat.mul_assoc, Nat.succ_mul]
  have h1 : 2 * (k + 1) * c ≤ j * c := Nat.mul_le_mul_right c hj
  exact SortedIn.same (h.2 j (by omega)) fun i hi _ => hp.2.1 i (.inr (by omega))
theorem blocks_whole {c n : Nat} {d : Array α} (h : Blocks lt c n d) (hc : n ≤ c) : SortedIn lt 0 n d := by
  have := h 0
  rw [Nat.zero_mul, Nat.zero_add, Nat.min_eq_right hc] at this
  exact this
theorem mul_step {a k c : Nat} (h : a = k * c) : a + c = (k + 1) * c := by rw [Nat.succ_mul, h]
end
end Go.Proofs.Ytelgajgghgknnaa
