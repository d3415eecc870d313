/- Activations in memory, and the contract of order.Sort. -/
import Derived.Test.YtelgajgghgknnaaStableS
import Derived.Test.YtelgajgghgknnaaLaw26
import Derived.Deep.AppendLies
namespace Go.Proofs.Ytelgajgghgknnaa
open Go Go.RowKit Go.MapKept Go.Sort

/-- What an activation says. -/
structure Co where
  rule : Int
  tup : List Int
  sal : Int
deriving DecidableEq
def Ac.co (a : Ac) : Co := ⟨a.rule, a.tup, a.sal⟩

/-- A slice's capacity is no less than its length. -/
def CapOk : Value → Prop
  | .slice _ n c => n ≤ c
  | _ => True

/-- The slice v reads as l. -/
structure ActsIs (w : World) (v : Value) (l : List Ac) : Prop where
  len : l.length ≤ 1000000
  row : (∃ b off cap, v = .slice (some ⟨b, off, none⟩) l.length cap ∧ ∀ i (h : i < l.length), w.cell? ⟨b, off + i * 3, none⟩ = some (.int .i64 l[i].rule) ∧ w.cell? ⟨b, off + i * 3 + 1, none⟩ = some l[i].x ∧ w.cell? ⟨b, off + i * 3 + 2, none⟩ = some (.int .i64 l[i].sal)) ∨
    (l = [] ∧ (v = .slice none 0 0 ∨ ∃ a cap, v = .slice (some a) 0 cap))
  tups : ∀ a ∈ l, NIs w a.x a.tup

theorem ActsIs.form {w : World} {v : Value} {l : List Ac} (h : ActsIs w v l) : ∃ a c, v = .slice a l.length c := by
  rcases h.row with ⟨b, off, cap, rfl, _⟩ | ⟨rfl, rfl | ⟨a, cap, rfl⟩⟩ <;> exact ⟨_, _, rfl⟩
theorem ActsIs.below {w w' : World} {v : Value} {l : List Ac} (h : ActsIs w v l) (hb : Below w.heap.size w w') : ActsIs w' v l := by
  refine ⟨h.len, ?_, fun a ha => (h.tups a ha).below hb⟩
  rcases h.row with ⟨b, off, cap, e, hi⟩ | q
  · refine .inl ⟨b, off, cap, e, fun i hil => ?_⟩
    obtain ⟨h0, h1, h2⟩ := hi i hil
    exact ⟨(hb.cell (p := ⟨b, off + i * 3, none⟩) (lt_of_cell h0)).trans h0, (hb.cell (p := ⟨b, off + i * 3 + 1, none⟩) (lt_of_cell h1)).trans h1, (hb.cell (p := ⟨b, off + i * 3 + 2, none⟩) (lt_of_cell h2)).trans h2⟩
  · exact .inr q
theorem ActsIs.at {w : World} {v : Value} {l : List Ac} (h : ActsIs w v l) {k : Nat} (hk : k < l.length) : ∃ b off cap xa xc, v = .slice (some ⟨b, off, none⟩) l.length cap ∧ l[k].x = .slice xa l[k].tup.length xc ∧
    w.cell? ⟨b, off + k * 3, none⟩ = some (.int .i64 l[k].rule) ∧ w.cell? ⟨b, off + k * 3 + 1, none⟩ = some (.slice xa l[k].tup.length xc) ∧ w.cell? ⟨b, off + k * 3 + 2, none⟩ = some (.int .i64 l[k].sal) := by
  rcases h.row with ⟨b, off, cap, e, hi⟩ | ⟨rfl, _⟩
  · obtain ⟨xa, xc, hx⟩ := (h.tups _ (List.getElem_mem hk)).form
    obtain ⟨h0, h1, h2⟩ := hi k hk
    exact ⟨b, off, cap, xa, xc, e, hx, h0, by rw [← hx]; exact h1, h2⟩
  · simp at hk

/-- The cells of activations. -/
def aflat : List Ac → List Value
  | [] => []
  | a :: l => .int .i64 a.rule :: a.x :: .int .i64 a.sal :: aflat l
theorem aflat_append (l m : List Ac) : aflat (l ++ m) = aflat l ++ aflat m := by
  induction l with
  | nil => rfl
  | cons f l ih => simp [aflat, ih]
theorem aflat_length (l : List Ac) : (aflat l).length = l.length * 3 := by
  induction l with
  | nil => rfl
  | cons f l ih => simp [aflat, ih]; omega
theorem aflat_get : ∀ (l : List Ac) (i : Nat) (h : i < l.length), (aflat l)[i * 3]? = some (.int .i64 l[i].rule) ∧ (aflat l)[i * 3 + 1]? = some l[i].x ∧ (aflat l)[i * 3 + 2]? = some (.int .i64 l[i].sal)
  | [], i, h => by simp at h
  | v :: l, 0, _ => ⟨rfl, rfl, rfl⟩
  | v :: l, i + 1, h => by
    have := aflat_get l i (by simpa using h)
    rw [show (i + 1) * 3 = i * 3 + 3 by omega, show i * 3 + 3 + 1 = i * 3 + 1 + 3 by omega, show i * 3 + 3 + 2 = i * 3 + 2 + 3 by omega]
    simpa [aflat] using this

/-- v is a slice of activations of one's own: it, and their tuples, lie in memory from block B on, and may be written. -/
structure OutIs (B : Nat) (w : World) (v : Value) (l : List Ac) : Prop where
  own : w.ownsRow B 27 3 v l.length (aflat l)
  tups : ∀ a ∈ l, a.tup.length ≤ 1000000 ∧ w.ownsRow B 3 1 a.x a.tup.length (a.tup.map (.int .i64))

theorem owns_below {W w2 : World} {base : Nat} {e : TypeId} {size : Nat} {v : Value} {n : Nat} {xs : List Value} (h : W.ownsRow base e size v n xs) (hb : Below W.heap.size W w2) : w2.ownsRow base e size v n xs :=
  h.kept (row := none) ⟨hb.os, hb.tape, hb.output, hb.size, fun i hi _ => hb.block i hi⟩ (by cases v.ownBlock <;> simp)
theorem owns_only {W w2 : World} {base : Nat} {e : TypeId} {size : Nat} {v : Value} {n : Nat} {xs : List Value} {S : List Nat} (h : W.ownsRow base e size v n xs) (hb : Only S W w2) (hn : ∀ k, v.ownBlock = some k → k ∉ S) : w2.ownsRow base e size v n xs := by
  refine ⟨h.1, ?_⟩
  rcases h.2 with q | ⟨g, cap, cur, rfl, hb1, hg, r⟩
  · exact .inl q
  · exact .inr ⟨g, cap, cur, rfl, hb1, (hb.block g (lt_of_heap hg) (hn g rfl)).trans hg, r⟩
theorem owns_ne {w : World} {B B' n m s s' : Nat} {t t' : TypeId} {v v' : Value} {xs ys : List Value} (ht : t ≠ t') (h : w.ownsRow B t s v n xs) (h' : w.ownsRow B' t' s' v' m ys) {k : Nat} (hk : v.ownBlock = some k) : v'.ownBlock ≠ some k := by
  intro hk'
  rcases h.2 with ⟨rfl, _⟩ | ⟨g, cap, cur, rfl, _, hg, _⟩
  · cases hk
  · rcases h'.2 with ⟨rfl, _⟩ | ⟨g', cap', cur', rfl, _, hg', _⟩
    · cases hk'
    · simp only [Value.ownBlock, Option.some.injEq] at hk hk'
      subst hk hk'
      rw [hg] at hg'
      injection hg' with q
      injection q with q1 q2
      exact ht q2

theorem OutIs.below {B : Nat} {w w' : World} {v : Value} {l : List Ac} (h : OutIs B w v l) (hb : Below w.heap.size w w') : OutIs B w' v l := ⟨owns_below h.own hb, fun a ha => ⟨(h.tups a ha).1, owns_below (h.tups a ha).2 hb⟩⟩
theorem OutIs.form {B : Nat} {w : World} {v : Value} {l : List Ac} (h : OutIs B w v l) : ∃ a c, v = .slice a l.length c := by
  rcases h.own.2 with ⟨rfl, q⟩ | ⟨g, cap, cur, rfl, _⟩
  · exact ⟨none, 0, by rw [q]⟩
  · exact ⟨_, _, rfl⟩

theorem ainfo : (Try.prog.info? 27).map (fun i => (i.zero, i.size, i.bytes)) = some (some (.agg #[.int .i64 0, .slice none 0 0, .int .i64 0]), 3, 40) := by kernel_rfl
theorem ainfo_parts : ∃ i, Try.prog.info? 27 = some i ∧ i.zero = some (.agg #[.int .i64 0, .slice none 0 0, .int .i64 0]) ∧ i.size = 3 ∧ i.bytes = 40 := by
  have h := ainfo
  cases hi : Try.prog.info? 27 with
  | none => simp [hi] at h
  | some i =>
    simp [hi] at h
    exact ⟨i, rfl, h.1, h.2.1, h.2.2⟩

theorem OutIs.snoc {B : Nat} {w w2 w3 : World} {la : Option Addr} {lc g cap : Nat} {l : List Ac} {a : Ac} (h : OutIs B w (.slice la l.length lc) l) (hb : Below w.heap.size w w2) (hx : a.tup.length ≤ 1000000 ∧ w2.ownsRow B 3 1 a.x a.tup.length (a.tup.map (.int .i64)))
    (hown : w3.ownsRow B 27 3 (.slice (some ⟨g, 0, none⟩) (l.length + 1) cap) (l.length + 1) (aflat l ++ [.int .i64 a.rule, a.x, .int .i64 a.sal])) (hgrow : w2.grownBy w3 (Value.ownBlock (.slice la l.length lc))) :
    OutIs B w3 (.slice (some ⟨g, 0, none⟩) (l.length + 1) cap) (l ++ [a]) := by
  have h2 := h.below hb
  have ht : 27 ≠ 3 := by decide
  refine ⟨by rw [aflat_append, List.length_append]; exact hown, fun b hb' => ?_⟩
  have key : ∀ c : Ac, (c.tup.length ≤ 1000000 ∧ w2.ownsRow B 3 1 c.x c.tup.length (c.tup.map (.int .i64))) → c.tup.length ≤ 1000000 ∧ w3.ownsRow B 3 1 c.x c.tup.length (c.tup.map (.int .i64)) := fun c hc => by
    refine ⟨hc.1, hc.2.kept hgrow ?_⟩
    cases hk : Value.ownBlock c.x with
    | none => exact .inl rfl
    | some k => exact .inr fun e => owns_ne ht h2.own hc.2 e.symm hk
  rcases List.mem_append.1 hb' with hm | hm
  · exact key b (h2.tups b hm)
  · simp only [List.mem_singleton] at hm
    subst hm
    exact key b hx

set_option maxHeartbeats 1000000 in
theorem sortcmp_any (s : Int) (ps : Nat) (x y : Ac) (w : World) (hs : w.cell? ⟨ps, 0, none⟩ = some (.int .u8 s)) (hx : NIs w x.x x.tup) (hy : NIs w y.x y.tup) :
    Calls Try.prog 63 (#[x.val, y.val] ++ #[.pointer (some ⟨ps, 0, none⟩)]) w fun e w' => e = .returned (.int .i64 (cmpA s x y)) ∧ Below w.heap.size w w' := by
  show Calls Try.prog 63 #[x.val, y.val, .pointer (some ⟨ps, 0, none⟩)] w _
  obtain ⟨rx, lx, sx, vx⟩ := x
  obtain ⟨ry, ly, sy, vy⟩ := y
  simp only at hx hy
  obtain ⟨xa, xc, rfl⟩ := hx.form
  obtain ⟨ya, yc, rfl⟩ := hy.form
  have hb2 : Below w.heap.size w ((w.alloc (Obj.cells #[.int .i64 rx, .slice xa lx.length xc, .int .i64 sx] 27)).alloc (Obj.cells #[.int .i64 ry, .slice ya ly.length yc, .int .i64 sy] 27)) := (((Only.refl [] w).alloc _).alloc _).below
  have hcmp := compare_any s ⟨rx, lx, sx, .slice xa lx.length xc⟩ ⟨ry, ly, sy, .slice ya ly.length yc⟩ _ (hx.below hb2) (hy.below hb2)
  have hlt := lt_of_cell hs
  simp only at hlt
  have HB2 := hide hb2
  unfold Ac.val at hcmp ⊢
  have Hcmp := hide hcmp
  clear hx hy hcmp hb2
  go_enter Try.func63, Try.ntmps63
  go_wp2_with fail
  refine Hcmp.out.mono ?_
  rintro e w' ⟨rfl, hb⟩
  have HB := hide (HB2.out.trans (hb.mono HB2.out.size))
  clear hb
  go_wp2
  go_ret
  exact ⟨rfl, HB.out⟩

theorem swo_act (s : Int) : SWO (fun x y => decide (cmpA s x y < 0)) := by
  have h := cmp_act s
  refine ⟨fun x => ?_, fun x y z h1 h2 => ?_, fun x y z h1 h2 => ?_⟩
  · have := h.anti x x
    simp
    omega
  · simp only [decide_eq_true_eq] at *
    exact h.lt1 h1 (by omega)
  · have a1 := h.anti x y
    have a2 := h.anti y z
    have a3 := h.anti x z
    simp only [decide_eq_false_iff_not] at *
    have := h.trans z y x (by omega) (by omega)
    omega

/-- What the sort's comparison leans on. -/
def GoodAc (blk : Nat) (w : World) (a : Ac) : Prop := ∀ W, Only [blk] w W → NIs W a.x a.tup

theorem sort_cmpIs (s : Int) (ps blk : Nat) (w : World) (hs : w.cell? ⟨ps, 0, none⟩ = some (.int .u8 s)) (hne : ps ≠ blk) :
    CmpIs 63 #[.pointer (some ⟨ps, 0, none⟩)] (cmpA s) (GoodAc blk w) blk w := fun x y hx hy W hW =>
  sortcmp_any s ps x y W ((hW.cell (p := ⟨ps, 0, none⟩) (lt_of_cell hs) (by simpa using hne)).trans hs) (hx W hW) (hy W hW)

theorem eg_sort : ∀ args w, (callFunc 63 args).run Try.prog w = .ok (.enter 63 args) w := enters_of Try.func63 (by kernel_rfl) rfl

set_option maxHeartbeats 1000000 in
theorem stablef_any (s : Int) (ps blk cap sz : Nat) (d : Array Ac) (w : World) (hs : w.cell? ⟨ps, 0, none⟩ = some (.int .u8 s)) (hne : ps ≠ blk) (hsz : sz ≤ 1000000) (h : At (GoodAc blk w) w blk 0 sz d w) :
    Calls Try.prog 62 #[.slice (some ⟨blk, 0, none⟩) sz cap, .func (.func 63) #[] #[.pointer (some ⟨ps, 0, none⟩)]] w fun e w' =>
      e = .returned (.tuple #[]) ∧ ∃ d', Sorted (fun x y => decide (cmpA s x y < 0)) d d' sz ∧ At (GoodAc blk w) w blk 0 sz d' w' := by
  have hq := hide (stable_any _ _ (cmpA s) (GoodAc blk w) w blk 0 cap sz eg_sort (swo_act s) (sort_cmpIs s ps blk w hs hne) hsz d w h)
  clear h hs
  go_enter Try.func62, Try.ntmps62
  go_wp2_with fail
  refine hq.out.mono ?_
  rintro e w' ⟨rfl, d', h1, h2⟩
  have H1 := hide h1
  have H2 := hide h2
  clear h1 h2
  go_wp2
  go_end0
  exact ⟨rfl, d', H1.out, H2.out⟩

set_option maxHeartbeats 1000000 in
theorem stablef_none (f : Value) (w : World) :
    Calls Try.prog 62 #[.slice none 0 0, f] w fun e w' => e = .returned (.tuple #[]) ∧ w' = w := by
  have hin : ∀ w, Calls Try.prog 73 #[.slice none 0 0, .int .i64 0, .int .i64 0, f] w fun e w' => e = .returned (.tuple #[]) ∧ w' = w := fun w => by
    go_enter Try.func73, Try.ntmps73
    go_wp2
    refine wp_loop_rounds 1 ?_
    rw [rounds_succ]
    go_wp2
    go_end0
    exact ⟨rfl, rfl⟩
  have hst : ∀ w, Calls Try.prog 69 #[.slice none 0 0, .int .i64 0, f] w fun e w' => e = .returned (.tuple #[]) ∧ w' = w := fun w => by
    have Hin := hide hin
    clear hin
    go_enter Try.func69, Try.ntmps69
    go_wp2_with fail
    refine wp_loop_rounds 1 ?_
    rw [rounds_succ]
    go_wp2_with fail
    refine (Hin.out _).mono ?_
    rintro e w' ⟨rfl, rfl⟩
    go_wp2_with fail
    refine wp_loop_rounds 1 ?_
    rw [rounds_succ]
    go_wp2
    go_end0
    exact ⟨rfl, rfl⟩
  have Hst := hide hst
  clear hst hin
  go_enter Try.func62, Try.ntmps62
  go_wp2_with fail
  refine (Hst.out _).mono ?_
  rintro e w' ⟨rfl, rfl⟩
  go_wp2
  go_end0
  exact ⟨rfl, rfl⟩
end Go.Proofs.Ytelgajgghgknnaa
