/- Entries of an agenda in memory; where one stands (find). -/
import Derived.Test.YtelgajgghgknnaaActs
import Derived.Test.YtelgajgghgknnaaRowK
import Derived.Test.YtelgajgghgknnaaGreat
namespace Go.Proofs.Ytelgajgghgknnaa
open Go Go.RowKit Go.MapKept Go.Sort

/-- An entry: an activation, and whether it was fired. -/
structure En where
  ac : Ac
  fired : Bool
def En.val (e : En) : Value := .agg #[.int .i64 e.ac.rule, e.ac.x, .int .i64 e.ac.sal, .bool e.fired]
/-- One rule and tuple. -/
def Ac.same (a b : Ac) : Bool := decide (a.rule = b.rule ∧ a.tup = b.tup)
/-- Where one stands. -/
def idx (l : List En) (x : Ac) : Int := match l.findIdx? (fun e => e.ac.same x) with | some i => i | none => -1

def eflat : List En → List Value
  | [] => []
  | e :: l => .int .i64 e.ac.rule :: e.ac.x :: .int .i64 e.ac.sal :: .bool e.fired :: eflat l
theorem eflat_append (l m : List En) : eflat (l ++ m) = eflat l ++ eflat m := by
  induction l with
  | nil => rfl
  | cons f l ih => simp [eflat, ih]
theorem eflat_length (l : List En) : (eflat l).length = l.length * 4 := by
  induction l with
  | nil => rfl
  | cons f l ih => simp [eflat, ih]; omega
theorem eflat_take (l : List En) (i : Nat) (h : i ≤ l.length) : (eflat l).take (i * 4) = eflat (l.take i) := by
  conv => lhs; rw [← List.take_append_drop i l, eflat_append]
  rw [List.take_append_of_le_length (by rw [eflat_length]; simp; omega), List.take_of_length_le (by rw [eflat_length]; simp; omega)]
theorem eflat_drop (l : List En) (i : Nat) (_ : i ≤ l.length) : (eflat l).drop (i * 4) = eflat (l.drop i) := by
  conv => lhs; rw [← List.take_append_drop i l, eflat_append]
  rw [List.drop_append_of_le_length (by rw [eflat_length]; simp; omega), List.drop_eq_nil_of_le (by rw [eflat_length]; simp; omega)]
  rfl
theorem eflat_get : ∀ (l : List En) (i : Nat) (h : i < l.length), (eflat l)[i * 4]? = some (.int .i64 l[i].ac.rule) ∧ (eflat l)[i * 4 + 1]? = some l[i].ac.x ∧ (eflat l)[i * 4 + 2]? = some (.int .i64 l[i].ac.sal) ∧ (eflat l)[i * 4 + 3]? = some (.bool l[i].fired)
  | [], i, h => absurd h (Nat.not_lt_zero i)
  | v :: l, 0, _ => ⟨rfl, rfl, rfl, rfl⟩
  | v :: l, i + 1, h => by
    have := eflat_get l i (by simpa using h)
    rw [show (i + 1) * 4 = i * 4 + 4 by omega, show i * 4 + 4 + 1 = i * 4 + 1 + 4 by omega, show i * 4 + 4 + 2 = i * 4 + 2 + 4 by omega, show i * 4 + 4 + 3 = i * 4 + 3 + 4 by omega]
    simpa [eflat] using this
theorem eflat_one : ∀ (l : List En) (_ : ∀ e ∈ l, ∃ a n c, e.ac.x = .slice a n c), ∀ u ∈ eflat l, u.oneCell' = true
  | [], _ => by simp [eflat]
  | e :: l, h => by
    intro u hu
    obtain ⟨a, n, c, hx⟩ := h e (.head _)
    simp only [eflat, List.mem_cons] at hu
    rcases hu with rfl | rfl | rfl | rfl | hu
    · rfl
    · rw [hx]; rfl
    · rfl
    · rfl
    · exact eflat_one l (fun e he => h e (.tail _ he)) u hu

/-- The slice v is the entries l; they lie in memory of one's own. -/
structure EnsIs (B : Nat) (w : World) (v : Value) (l : List En) : Prop where
  len : l.length ≤ 100000
  own : w.ownsRow B 61 4 v l.length (eflat l)
  tups : ∀ e ∈ l, e.ac.tup.length ≤ 1000000 ∧ w.ownsRow B 3 1 e.ac.x e.ac.tup.length (e.ac.tup.map (.int .i64))

theorem EnsIs.form {B : Nat} {w : World} {v : Value} {l : List En} (h : EnsIs B w v l) : ∃ a c, v = .slice a l.length c ∧ l.length ≤ c := by
  rcases h.own.2 with ⟨rfl, q⟩ | ⟨g, cap, cur, rfl, _, _, hc, _⟩
  · exact ⟨none, 0, by rw [q], by omega⟩
  · exact ⟨_, _, rfl, hc⟩
theorem EnsIs.below {B : Nat} {w w' : World} {v : Value} {l : List En} (h : EnsIs B w v l) (hb : Below w.heap.size w w') : EnsIs B w' v l := ⟨h.len, owns_below h.own hb, fun e he => ⟨(h.tups e he).1, owns_below (h.tups e he).2 hb⟩⟩
theorem EnsIs.nis {B : Nat} {w : World} {v : Value} {l : List En} (h : EnsIs B w v l) {e : En} (he : e ∈ l) : NIs w e.ac.x e.ac.tup := NIs.of_row (h.tups e he).1 (h.tups e he).2
theorem EnsIs.at {B : Nat} {w : World} {v : Value} {l : List En} (h : EnsIs B w v l) {k : Nat} (hk : k < l.length) : ∃ g cap xa xc, v = .slice (some ⟨g, 0, none⟩) l.length cap ∧ l.length ≤ cap ∧ cap ≤ maxLen ∧ B ≤ g ∧ l[k].ac.x = .slice xa l[k].ac.tup.length xc ∧
    (w.cell? ⟨g, k * 4, none⟩ = some (.int .i64 l[k].ac.rule) ∧ w.cell? ⟨g, k * 4 + 1, none⟩ = some (.slice xa l[k].ac.tup.length xc) ∧ w.cell? ⟨g, k * 4 + 2, none⟩ = some (.int .i64 l[k].ac.sal) ∧ w.cell? ⟨g, k * 4 + 3, none⟩ = some (.bool l[k].fired)) ∧ w.frozen? ⟨g, k * 4 + 3, none⟩ = false := by
  obtain ⟨xa, xc, hx⟩ := (h.nis (List.getElem_mem hk)).form
  rcases h.own.2 with ⟨rfl, q⟩ | ⟨g, cap, cur, rfl, hB, hg, hc, hm, _⟩
  · omega
  · obtain ⟨h0, h1, h2, h3⟩ := eflat_get l k hk
    have c := h.own.cells (g := g) rfl
    have c0 := c _ _ h0
    have c1 := c _ _ h1
    have c2 := c _ _ h2
    have c3 := c _ _ h3
    simp only [Addr.add_lit, Nat.zero_add] at c0 c1 c2 c3
    exact ⟨g, cap, xa, xc, rfl, hc, hm, hB, hx, ⟨c0, by rw [← hx]; exact c1, c2, c3⟩, by simp [World.frozen?, hg]⟩

theorem cells4e {w : World} {b : Nat} {x y z u : Value} {t : TypeId} (h : w.heap[b]? = some (.cells #[x, y, z, u] t (0, 0))) :
    w.cell? ⟨b, 0, none⟩ = some x ∧ w.cell? ⟨b, 1, none⟩ = some y ∧ w.cell? ⟨b, 2, none⟩ = some z ∧ w.cell? ⟨b, 3, none⟩ = some u := by
  simp [World.cell?, h]

set_option maxHeartbeats 1000000 in
theorem findc_any (px : Nat) (e : En) (x : Ac) (w : World) (h0 : w.cell? ⟨px, 0, none⟩ = some (.int .i64 x.rule)) (h1 : w.cell? ⟨px, 1, none⟩ = some x.x) (h2 : w.cell? ⟨px, 2, none⟩ = some (.int .i64 x.sal)) (he : NIs w e.ac.x e.ac.tup) (hx : NIs w x.x x.tup) :
    Calls Try.prog 51 #[e.val, .pointer (some ⟨px, 0, none⟩)] w fun r w' => r = .returned (.bool (e.ac.same x)) ∧ Below w.heap.size w w' := by
  obtain ⟨⟨re, le, se, xe⟩, fe⟩ := e
  obtain ⟨rx, lx, sx, vx⟩ := x
  simp only at he hx h0 h1 h2
  obtain ⟨ea, ec, rfl⟩ := he.form
  obtain ⟨xa, xc, rfl⟩ := hx.form
  have hb1 : Below w.heap.size w (w.alloc (Obj.cells #[.int .i64 re, .slice ea le.length ec, .int .i64 se, .bool fe] 61)) := ((Only.refl [] w).alloc _).below
  have hs := same_act ⟨re, le, se, .slice ea le.length ec⟩ ⟨rx, lx, sx, .slice xa lx.length xc⟩ _ (he.below hb1) (hx.below hb1)
  unfold Ac.val at hs
  have hlt := lt_of_cell h0
  simp only at hlt
  have Hs := hide hs
  have HB := hide hb1
  clear hs hb1 he hx
  unfold En.val Ac.same
  obtain ⟨p, hp⟩ : ∃ p, decide (re = rx ∧ le = lx) = p := ⟨_, rfl⟩
  simp only at Hs ⊢
  rw [hp] at Hs ⊢
  clear hp
  go_enter Try.func51, Try.ntmps51
  go_wp2_with fail
  refine Hs.out.mono ?_
  rintro r w' ⟨rfl, hb⟩
  have HF := hide (HB.out.trans (hb.mono HB.out.size))
  clear hb
  go_wp2
  go_ret
  exact ⟨rfl, HF.out⟩

theorem idx_at {l : List En} {x : Ac} {k : Nat} (hk : k < l.length) (h0 : ∀ j (h : j < l.length), j < k → l[j].ac.same x = false) (h1 : l[k].ac.same x = true) : idx l x = k := by
  unfold idx
  rw [(List.findIdx?_eq_some_iff_getElem (p := fun e : En => e.ac.same x) (i := k)).2 ⟨hk, h1, fun j hj => by simpa using h0 j (by omega) hj⟩]
theorem idx_none {l : List En} {x : Ac} (h0 : ∀ j (h : j < l.length), l[j].ac.same x = false) : idx l x = -1 := by
  unfold idx
  rw [List.findIdx?_eq_none_iff.2 (fun e he => by obtain ⟨j, hj, rfl⟩ := List.getElem_of_mem he; exact h0 j hj)]

set_option maxHeartbeats 1000000 in
theorem index_any (B px : Nat) (v : Value) (l : List En) (x : Ac) (w : World) (h : EnsIs B w v l) (h0 : w.cell? ⟨px, 0, none⟩ = some (.int .i64 x.rule)) (h1 : w.cell? ⟨px, 1, none⟩ = some x.x) (h2 : w.cell? ⟨px, 2, none⟩ = some (.int .i64 x.sal)) (hx : NIs w x.x x.tup) :
    Calls Try.prog 50 #[v, .func (.func 51) #[] #[.pointer (some ⟨px, 0, none⟩)]] w fun r w' => r = .returned (.int .i64 (idx l x)) ∧ Below w.heap.size w w' := by
  obtain ⟨va, vc, rfl, hvc⟩ := h.form
  have hlen := h.len
  have hlt := lt_of_cell h0
  simp only at hlt
  have H := hide h
  have H0 := hide h0
  have H1 := hide h1
  have H2 := hide h2
  have HX := hide hx
  clear h h0 h1 h2 hx
  go_enter Try.func50, Try.ntmps50
  go_wp2
  go_loopw [8] (fun vi wr => ∃ k : Nat, k ≤ l.length ∧ vi = .int .i64 k ∧ Hid (∀ j (h : j < l.length), j < k → l[j].ac.same x = false) ∧ Hid (Below w.heap.size w wr)) (fun i _ => l.length - (intOf i).toNat)
  case atStart => exact ⟨0, Nat.zero_le _, rfl, fun j h hj => absurd hj (by omega), Below.refl _ _⟩
  case round =>
    obtain ⟨k, hk, rfl, hq, hb⟩ := hrel
    by_cases hlk : k < l.length
    · have hr := H.out.below hb.out
      obtain ⟨g, cap, xa, xc, e, _, _, _, hex, ⟨c0, c1, c2, c3⟩, _⟩ := hr.at hlk
      injection e with e1 e2 e3
      subst e1 e3
      clear e2
      have hc := findc_any px l[k] x wr ((hb.out.cell (p := ⟨px, 0, none⟩) hlt).trans H0.out) ((hb.out.cell (p := ⟨px, 1, none⟩) hlt).trans H1.out) ((hb.out.cell (p := ⟨px, 2, none⟩) hlt).trans H2.out) (hr.nis (List.getElem_mem hlk)) (HX.out.below hb.out)
      unfold En.val at hc
      rw [hex] at hc
      have Hc := hide hc
      obtain ⟨p, hp⟩ : ∃ p, l[k].ac.same x = p := ⟨_, rfl⟩
      rw [hp] at Hc
      have Hp := hide hp
      clear hr hc hp hex
      go_wp2_with fail
      refine Hc.out.mono ?_
      rintro r w2 ⟨rfl, hb2⟩
      have HB2 := hide (hb.out.trans (hb2.mono hb.out.size))
      clear hb2
      cases p
      · go_wp2
        go_roundw
        case rel => exact ⟨k + 1, by omega, by go_num, fun j h hj => by
          rcases Nat.lt_or_ge j k with q | q
          · exact hq.out j h q
          · obtain rfl : j = k := by omega
            exact Hp.out, HB2.out⟩
        case measure => simp [intOf]; omega
      · go_wp2
        go_ret
        exact ⟨by rw [idx_at hlk hq.out Hp.out]; rfl, HB2.out⟩
    · obtain rfl : k = l.length := by omega
      go_wp2
      go_ret
      exact ⟨by rw [idx_none (fun j h => hq.out j h h)]; rfl, hb.out⟩

/-- Block b is an agenda of strategy s, whose entries are l; they lie in the slice v. -/
structure AgIs (B : Nat) (w : World) (b : Nat) (s : Int) (v : Value) (l : List En) : Prop where
  blk : w.heap[b]? = some (.cells #[.int .u8 s, v] 57 (0, 0))
  hB : B ≤ b
  ens : EnsIs B w v l
theorem AgIs.below {B b : Nat} {w w' : World} {s : Int} {v : Value} {l : List En} (h : AgIs B w b s v l) (hb : Below w.heap.size w w') : AgIs B w' b s v l := ⟨(hb.block b (lt_of_heap h.blk)).trans h.blk, h.hB, h.ens.below hb⟩
theorem cells2e {w : World} {b : Nat} {x y : Value} {t : TypeId} (h : w.heap[b]? = some (.cells #[x, y] t (0, 0))) :
    w.cell? ⟨b, 0, none⟩ = some x ∧ w.cell? ⟨b, 1, none⟩ = some y ∧ w.frozen? ⟨b, 0, none⟩ = false ∧ w.frozen? ⟨b, 1, none⟩ = false := by
  simp [World.cell?, World.frozen?, h]

set_option maxHeartbeats 1000000 in
theorem find_any (B b : Nat) (s : Int) (v : Value) (l : List En) (x : Ac) (w : World) (h : AgIs B w b s v l) (hx : NIs w x.x x.tup) :
    Calls Try.prog 35 #[.pointer (some ⟨b, 0, none⟩), x.val] w fun r w' => r = .returned (.int .i64 (idx l x)) ∧ Below w.heap.size w w' := by
  obtain ⟨d0, d1, _, _⟩ := cells2e h.blk
  have hlt := lt_of_cell d0
  simp only at hlt
  obtain ⟨rx, lx, sx, vx⟩ := x
  simp only at hx
  obtain ⟨xa, xc, rfl⟩ := hx.form
  have hb1 : Below w.heap.size w (w.alloc (Obj.cells #[.int .i64 rx, .slice xa lx.length xc, .int .i64 sx] 27)) := ((Only.refl [] w).alloc _).below
  obtain ⟨k0, k1, k2, _⟩ := cells3a (MapKept.heap_alloc w (Obj.cells #[.int .i64 rx, .slice xa lx.length xc, .int .i64 sx] 27)).1
  have Hi := hide (index_any B w.heap.size v l ⟨rx, lx, sx, .slice xa lx.length xc⟩ _ (h.ens.below hb1) k0 k1 k2 (hx.below hb1))
  obtain ⟨va, vc, rfl, _⟩ := h.ens.form
  have HB := hide hb1
  clear h hx hb1 k0 k1 k2
  unfold Ac.val
  go_enter Try.func35, Try.ntmps35
  go_wp2_with fail
  refine Hi.out.mono ?_
  rintro r w' ⟨rfl, hb⟩
  have HF := hide (HB.out.trans (hb.mono (by simp)))
  clear hb
  go_wp2
  go_ret
  exact ⟨rfl, HF.out⟩
end Go.Proofs.Ytelgajgghgknnaa
