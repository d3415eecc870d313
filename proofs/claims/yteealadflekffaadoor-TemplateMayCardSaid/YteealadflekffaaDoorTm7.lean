/- template.names, one, May: which templates may be. -/
import Derived.Test.YteealadflekffaaDoorTm6
namespace Go.Proofs.YteealadflekffaaDoor
open Go Go.RowKit Go.Lib

theorem grownNone {w w' : World} (hb : Below w.heap.size w w') : w.grownBy w' none := ⟨hb.os, hb.tape, hb.output, hb.size, fun k hk _ => hb.block k hk⟩
/-- An own row of strings. -/
def OwnS (base : Nat) (w : World) (v : Value) (l : List ByteArray) : Prop := w.ownsRow base 9 1 v l.length (l.map Value.string)
theorem OwnS.below {base : Nat} {w w' : World} {v : Value} {l : List ByteArray} (h : OwnS base w v l) (hb : Below w.heap.size w w') : OwnS base w' v l := by
  refine World.ownsRow.kept h (grownNone hb) ?_
  cases hv : v.ownBlock
  · exact .inl rfl
  · exact .inr (by simp)
theorem OwnS.strs {base : Nat} {w : World} {v : Value} {l : List ByteArray} (h : OwnS base w v l) : ∃ a c, v = .slice a l.length c ∧ StrsIs w a c l := by
  have h' := h
  obtain ⟨h1, ⟨rfl, h0⟩ | ⟨g, cap, cur, rfl, hb, hg, hn, hc, hs, ht⟩⟩ := h
  · have : l = [] := List.eq_nil_of_length_eq_zero h0
    subst this
    exact ⟨none, 0, rfl, Nat.le_refl _, by omega, .inr rfl⟩
  · refine ⟨_, _, rfl, hn, by unfold maxLen at hc; omega, .inl ⟨g, 0, rfl, fun i hi j v hv => ?_⟩⟩
    have hcell := World.ownsRow.cells h' (g := g) rfl i (.string l[i]) (by simp [hi])
    rcases j with _ | j
    · simp only [strC, List.getElem?_cons_zero, Option.some.injEq] at hv
      subst hv
      rw [Addr.add_lit] at hcell
      simpa using hcell
    · simp [strC] at hv

/-- Are they names, no two the same? -/
def namesGo (seen : List ByteArray) : List ByteArray → Bool
  | [] => true
  | x :: r => tnameB x && !(seen.any fun y => decide (x = y)) && namesGo (seen ++ [x]) r
theorem namesGo_at {l : List ByteArray} {k : Nat} (h : k < l.length) : namesGo (l.take k) (l.drop k) = (tnameB l[k] && !((l.take k).any fun y => decide (l[k] = y)) && namesGo (l.take (k + 1)) (l.drop (k + 1))) := by
  rw [List.drop_eq_getElem_cons h, namesGo, List.take_succ_eq_append_getElem h]

theorem cell2 {w : World} {b : Nat} {x y : Value} {t : TypeId} (h : w.heap[b]? = some (.cells #[x, y] t (0, 0))) : w.cell? ⟨b, 0, none⟩ = some x ∧ w.cell? ⟨b, 1, none⟩ = some y := by
  simp [World.cell?, h]

/-- A function value that tells the names. -/
def TellsN (l : List ByteArray) (w : World) (g : Nat) (lb : Array Value) : Prop :=
  ∀ i (h : i < l.length) V, Below w.heap.size w V → Calls Tryd.prog g (#[.int .i64 (i : Int)] ++ lb) V fun r V' => r = .returned (.string l[i]) ∧ V = V'

theorem infoStr : (Tryd.prog.info? 9).map (fun i => (i.zero, i.size, i.bytes)) = some (some (.string ⟨#[]⟩), 1, 16) := by kernel_rfl

set_option maxHeartbeats 2000000 in
theorem names_any (l : List ByteArray) (g : Nat) (lb : Array Value) (eg : ∀ args w, (callFunc g args).run Tryd.prog w = .ok (.enter g args) w) (w : World) (hT : Tab w) (hlen : l.length ≤ 1000000) (hsz : ∀ x ∈ l, x.size ≤ 9223372036854775807) (hg : TellsN l w g lb) :
    Calls Tryd.prog 27 #[.int .i64 (l.length : Int), .func (.func g) #[] lb] w fun e w' => e = .returned (.bool (namesGo [] l)) ∧ Below w.heap.size w w' := by
  have HT := hide hT
  have HG := hide hg
  have HZ := hide hsz
  obtain ⟨i0, hi, hz0, hz1, hz2⟩ := info_parts infoStr
  clear hT hg hsz
  go_enter Tryd.func27, Tryd.ntmps27
  go_wp2
  go_loopw [5, 8] (fun v vi wr => ∃ k : Nat, k ≤ l.length ∧ vi = .int .i64 k ∧ Hid (namesGo [] l = namesGo (l.take k) (l.drop k)) ∧ Hid (OwnS w.heap.size wr v (l.take k)) ∧ Hid (Below w.heap.size w wr)) (fun _ i _ => l.length - (intOf i).toNat)
  case atStart => exact ⟨0, Nat.zero_le _, rfl, rfl, World.ownsRow_nil _ _ _ _, Below.refl _ _⟩
  case round =>
    obtain ⟨k, hk, rfl, hq, hown, hb⟩ := hrel
    by_cases hlk : k < l.length
    · have hat := namesGo_at hlk
      have hc1 := HG.out k hlk wr hb.out
      have hn1 := name_any l[k] (HZ.out _ (List.getElem_mem hlk)) wr (HT.out.below hb.out)
      obtain ⟨x, hx⟩ : ∃ x, l[k] = x := ⟨_, rfl⟩
      rw [hx] at hat hc1 hn1
      obtain ⟨q, hqn⟩ : ∃ q, tnameB x = q := ⟨_, rfl⟩
      rw [hqn] at hat hn1
      have Hat := hide hat
      have Hx := hide hx
      have Hqn := hide hqn
      have Hc1 := hide hc1
      have Hn1 := hide hn1
      clear hat hx hqn hc1 hn1
      go_wp2_with fail
      (with_reducible refine Hc1.out.mono ?_)
      rintro r V ⟨rfl, rfl⟩
      go_wp2_with fail
      (with_reducible refine Hn1.out.mono ?_)
      rintro e w1 ⟨rfl, hb1⟩
      have HB1 := hide (hb.out.trans (hb1.mono hb.out.size))
      have hown1 := hown.out.below hb1
      clear hb1 Hc1 Hn1
      cases q
      · go_wp2
        go_ret
        exact ⟨ret_bool (by rw [hq.out, Hat.out]; rfl), HB1.out⟩
      · obtain ⟨a, c, rfl, hstr⟩ := hown1.strs
        have hcon := containsStr_any a c (l.take k) x w1 hstr
        have hc1 := HG.out k hlk w1 HB1.out
        rw [Hx.out] at hc1
        have hlt : (l.take k).length = k := by rw [List.length_take]; omega
        rw [hlt] at hcon hown1
        obtain ⟨b, hbq⟩ : ∃ b, ((l.take k).any fun y => decide (x = y)) = b := ⟨_, rfl⟩
        rw [hbq] at hcon
        have hat := Hat.out
        rw [hbq] at hat
        have Hat2 := hide hat
        have Hcon := hide hcon
        have Hc1 := hide hc1
        have Hown1 := hide hown1
        have Hlt := hide hlt
        clear hcon hc1 hbq hat hown1 hstr hlt Hat
        go_wp2_with fail
        (with_reducible refine Hc1.out.mono ?_)
        rintro r V ⟨rfl, rfl⟩
        go_wp2_with fail
        (with_reducible refine Hcon.out.mono ?_)
        rintro r V ⟨rfl, rfl⟩
        cases b
        · have hcn : ∀ j u, [Value.string x][j]? = some u → (w1.alloc (.cells #[.string x] 9)).cell? ((⟨w1.heap.size, 0, none⟩ : Addr).add j) = some u := by
            intro j u hu
            rcases j with _ | j
            · simp only [List.getElem?_cons_zero, Option.some.injEq] at hu
              subst hu
              exact cell1 (heap_new w1 _)
            · simp at hu
          have Hcn := hide hcn
          have hownA := World.ownsRow.alloc Hown1.out (.cells #[.string x] 9)
          have HownA := hide hownA
          have hbase := HB1.out.size
          clear hcn hownA
          go_wp2_with fail
          (with_reducible refine Hc1.out.mono ?_)
          rintro r V ⟨rfl, rfl⟩
          go_wp2_with (at_builtin; refine wpList_append_own _ rfl _ _ 62 rfl w.heap.size 9 i0 (.string ⟨#[]⟩) 1 16 Tryd.underlying62 hi hz0 hz1 hz2 rfl (by decide) _ _ _ rfl HownA.out ⟨w1.heap.size, 0, none⟩ 1 1 [.string x] rfl rfl Hcn.out ?c2 ?c3 ?c4 ?c5 ?_)
          case c2 => simp [Value.oneCell']
          case c3 => rw [Hlt.out]; unfold maxLen; omega
          case c4 => rw [Hlt.out]; omega
          case c5 => simp; omega
          intro v' w2 hown2 hgrow _
          have Hown2 : Hid (OwnS w.heap.size w2 v' (l.take (k + 1))) := by
            rw [Hid, List.take_succ_eq_append_getElem hlk, Hx.out, OwnS, List.map_append, List.length_append, Hlt.out, List.map_take]
            exact hown2
          have HB2 := hide ((HB1.out.alloc HB1.out.size (.cells #[.string x] 9)).grown hgrow (by simp; omega) (fun b e => (World.ownsRow.lt HownA.out b e).1))
          clear hown2 hgrow
          go_wp2
          go_roundw
          case rel => exact ⟨k + 1, by omega, by go_num, hide (by rw [hq.out, Hat2.out]; rfl), Hown2, HB2⟩
          case measure => simp [intOf]; omega
        · go_wp2
          go_ret
          exact ⟨ret_bool (by rw [hq.out, Hat2.out]; rfl), HB1.out⟩
    · obtain rfl : k = l.length := by omega
      have Hd := hide (show namesGo [] l = true by rw [hq.out, List.drop_eq_nil_of_le (Nat.le_refl _)]; rfl)
      clear hq
      go_wp2
      go_ret
      exact ⟨ret_bool Hd.out.symm, hb.out⟩

/-- The names of templates. -/
def tnames (l : List Tpl) : List ByteArray := l.map (·.name)
/-- The names of slots. -/
def snames (l : List Slt) : List ByteArray := l.map (·.n)
/-- May a template be? -/
def oneB (t : Tpl) : Bool := decide (1 ≤ t.s.length) && decide (t.s.length ≤ 8) && namesGo [] (snames t.s) && !(t.s.any fun s => decide (s.k < 1 ∨ 5 < s.k))
/-- May templates be? -/
def tmayB (l : List Tpl) : Bool := decide (l.length ≤ 16) && namesGo [] (tnames l) && !(l.any fun t => !oneB t)

theorem tellsS (t : Tpl) (q : Nat) (w : World) (h : TplIs w t) (hc : w.cell? ⟨q, 1, none⟩ = some (.slice t.a t.s.length t.c)) : TellsN (snames t.s) w 45 #[.pointer (some ⟨q, 0, none⟩)] := by
  intro i hi V hV
  have hi' : i < t.s.length := by simpa [snames] using hi
  have hcV := bcell hV hc
  have hV2 := h.1.below hV
  obtain ⟨g, off, ha, c0, c1⟩ := hV2.at hi'
  rw [ha] at hcV
  have hn : (snames t.s)[i] = t.s[i].n := by simp [snames]
  rw [hn]
  obtain ⟨x, hx⟩ : ∃ x, t.s[i].n = x := ⟨_, rfl⟩
  rw [hx] at c0 ⊢
  have hlen := hV2.1.len
  clear hV2 hx hn hV hc h ha
  go_enter Tryd.func45, Tryd.ntmps45
  go_wp2
  go_ret
  exact ⟨rfl, rfl⟩

theorem tellsT (a : Option Addr) (c : Nat) (l : List Tpl) (q : Nat) (w : World) (h : TplsIs w a c l) (hc : w.cell? ⟨q, 0, none⟩ = some (.slice a l.length c)) : TellsN (tnames l) w 28 #[.pointer (some ⟨q, 0, none⟩)] := by
  intro i hi V hV
  have hi' : i < l.length := by simpa [tnames] using hi
  have hcV := bcell hV hc
  have hV2 := h.below hV
  obtain ⟨g, off, rfl, c0, c1⟩ := hV2.at hi'
  have hn : (tnames l)[i] = l[i].name := by simp [tnames]
  rw [hn]
  obtain ⟨x, hx⟩ : ∃ x, l[i].name = x := ⟨_, rfl⟩
  rw [hx] at c0 ⊢
  have hlen := hV2.1.len
  clear hV2 hx hn hV hc h
  go_enter Tryd.func28, Tryd.ntmps28
  go_wp2
  go_ret
  exact ⟨rfl, rfl⟩

theorem wrong1_any (s : Slt) (V : World) : Calls Tryd.prog 44 #[s.val] V fun r V' => r = .returned (.bool (decide (s.k < 1 ∨ 5 < s.k))) ∧ Below V.heap.size V V' := by
  have HB := hide ((Below.refl V.heap.size V).alloc (Nat.le_refl _) (.cells #[.string s.n, .int .u8 s.k] 39))
  unfold Slt.val
  obtain ⟨n, k⟩ := s
  simp only at HB ⊢
  by_cases h1 : k < 1
  · rw [decide_eq_true (.inl h1)]
    go_enter Tryd.func44, Tryd.ntmps44
    go_wp2
    go_ret
    exact ⟨rfl, HB.out⟩
  · have d1 : decide (k < 1) = false := by simpa using h1
    by_cases h5 : 5 < k
    · rw [decide_eq_true (.inr h5)]
      clear h1
      go_enter Tryd.func44, Tryd.ntmps44
      go_wp2
      go_ret
      exact ⟨rfl, HB.out⟩
    · have d5 : decide (5 < k) = false := by simpa using h5
      rw [decide_eq_false (by omega)]
      clear h1 h5
      go_enter Tryd.func44, Tryd.ntmps44
      go_wp2
      go_ret
      exact ⟨rfl, HB.out⟩

set_option maxHeartbeats 1000000 in
theorem one_any (t : Tpl) (w : World) (hT : Tab w) (h : TplIs w t) :
    Calls Tryd.prog 31 #[.agg #[.string t.name, .slice t.a t.s.length t.c]] w fun r w' => r = .returned (.bool (oneB t)) ∧ Below w.heap.size w w' := by
  have hb := (Below.refl w.heap.size w).alloc (Nat.le_refl _) (.cells #[.string t.name, .slice t.a t.s.length t.c] 26)
  have hlen := h.1.1.len
  have hcell : (w.alloc (.cells #[.string t.name, .slice t.a t.s.length t.c] 26)).cell? ⟨w.heap.size, 1, none⟩ = some (.slice t.a t.s.length t.c) := by
    exact (cell2 (heap_new w (.cells #[.string t.name, .slice t.a t.s.length t.c] 26))).2
  have hsn : (snames t.s).length = t.s.length := by simp [snames]
  have hszs : ∀ x ∈ snames t.s, x.size ≤ 9223372036854775807 := by
    intro x hx
    obtain ⟨s, hs, rfl⟩ := List.mem_map.1 hx
    exact (h.1.2 s hs).2.2
  have hnames : t.s.length ≤ 1000000 → _ := fun hl => names_any (snames t.s) 45 #[.pointer (some ⟨w.heap.size, 0, none⟩)] (enters_of Tryd.func45 (by kernel_rfl) rfl) (w.alloc (.cells #[.string t.name, .slice t.a t.s.length t.c] 26)) (hT.below hb) (by rw [hsn]; exact hl) hszs (tellsS t w.heap.size _ (h.below hb) hcell)
  rw [hsn] at hnames
  have hcon : ∀ V, Below (w.alloc (.cells #[.string t.name, .slice t.a t.s.length t.c] 26)).heap.size (w.alloc (.cells #[.string t.name, .slice t.a t.s.length t.c] 26)) V → _ := fun V hV => containsS_any 44 #[] (fun s => decide (s.k < 1 ∨ 5 < s.k)) (enters_of Tryd.func44 (by kernel_rfl) rfl) t.a t.c t.s V ((h.1.below hb).below hV) (fun s V' _ _ => wrong1_any s V')
  have HB := hide hb
  have Hn := hide hnames
  have Hc := hide hcon
  have Hcell := hide hcell
  clear hb hnames hcon hcell hT h hszs hsn
  unfold oneB
  obtain ⟨nm, l, a, c⟩ := t
  simp only at HB hlen Hn Hc Hcell ⊢
  obtain ⟨q1, hq1⟩ : ∃ q, namesGo [] (snames l) = q := ⟨_, rfl⟩
  obtain ⟨q2, hq2⟩ : ∃ q, (l.any fun s => decide (s.k < 1 ∨ 5 < s.k)) = q := ⟨_, rfl⟩
  rw [hq1] at Hn ⊢
  rw [hq2] at Hc ⊢
  clear hq1 hq2
  by_cases h1 : 1 ≤ l.length
  · have d1 : (1 : Int) ≤ l.length := by omega
    by_cases h8 : l.length ≤ 8
    · have d8 : (l.length : Int) ≤ 8 := by omega
      rw [decide_eq_true h1, decide_eq_true h8]
      have Hn2 := hide (Hn.out (by omega))
      clear Hn h1 h8
      go_enter Tryd.func31, Tryd.ntmps31
      go_wp2_with fail
      (with_reducible refine Hn2.out.mono ?_)
      rintro r V ⟨rfl, hb1⟩
      have hcl := bcell hb1 Hcell.out
      have HB1 := hide (HB.out.trans (hb1.mono HB.out.size))
      have Hc2 := hide (Hc.out V hb1)
      have hsz : w.heap.size < V.heap.size := by have := hb1.size; simp at this; omega
      clear hb1 Hn2 Hc
      cases q1
      · go_wp2
        go_ret
        exact ⟨rfl, HB1.out⟩
      · go_wp2_with fail
        (with_reducible refine Hc2.out.mono ?_)
        rintro r V2 ⟨rfl, hb2⟩
        have HB2 := hide (HB1.out.trans (hb2.mono HB1.out.size))
        clear hb2 Hc2 hcl
        go_wp2
        go_ret
        exact ⟨ret_bool (by simp), HB2.out⟩
    · have d8 : 8 < (l.length : Int) := by omega
      have e8 : decide ((l.length : Int) ≤ 8) = false := by simp; omega
      rw [decide_eq_true h1, decide_eq_false h8]
      have hcl := Hcell.out
      clear Hn Hc h1 h8
      go_enter Tryd.func31, Tryd.ntmps31
      go_wp2
      go_ret
      exact ⟨rfl, HB.out⟩
  · have d1 : (l.length : Int) < 1 := by omega
    have e1 : decide ((1 : Int) ≤ l.length) = false := by simp; omega
    rw [decide_eq_false h1]
    have hcl := Hcell.out
    clear Hn Hc h1
    go_enter Tryd.func31, Tryd.ntmps31
    go_wp2
    go_ret
    exact ⟨rfl, HB.out⟩

theorem may2_any (t : Tpl) (V : World) (ht : TplIs V t) (hT : Tab V) : Calls Tryd.prog 30 #[t.val] V fun r V' => r = .returned (.bool (!oneB t)) ∧ Below V.heap.size V V' := by
  have hb := (Below.refl V.heap.size V).alloc (Nat.le_refl _) (.cells #[.string t.name, .slice t.a t.s.length t.c] 26)
  have Ho := hide (one_any t _ (hT.below hb) (ht.below hb))
  have HB := hide hb
  clear hb ht hT
  obtain ⟨q, hq⟩ : ∃ q, oneB t = q := ⟨_, rfl⟩
  rw [hq] at Ho ⊢
  clear hq
  unfold Tpl.val
  obtain ⟨nm, l, a, c⟩ := t
  simp only at Ho HB ⊢
  go_enter Tryd.func30, Tryd.ntmps30
  go_wp2_with fail
  (with_reducible refine Ho.out.mono ?_)
  rintro r V2 ⟨rfl, hb2⟩
  have HB2 := hide (HB.out.trans (hb2.mono HB.out.size))
  clear hb2
  go_wp2
  go_ret
  exact ⟨rfl, HB2.out⟩

set_option maxHeartbeats 1000000 in
theorem tmay_any (a : Option Addr) (c : Nat) (l : List Tpl) (w : World) (hT : Tab w) (h : TplsIs w a c l) :
    Calls Tryd.prog 12 #[.slice a l.length c] w fun r w' => r = .returned (.bool (tmayB l)) ∧ Below w.heap.size w w' := by
  have hb := (Below.refl w.heap.size w).alloc (Nat.le_refl _) (.cells #[.slice a l.length c] 22)
  have hlen := h.1.len
  have hcell := cell1 (heap_new w (.cells #[.slice a l.length c] 22))
  have hsn : (tnames l).length = l.length := by simp [tnames]
  have hszs : ∀ x ∈ tnames l, x.size ≤ 9223372036854775807 := by
    intro x hx
    obtain ⟨s, hs, rfl⟩ := List.mem_map.1 hx
    exact (h.2 s hs).2
  have hnames : l.length ≤ 1000000 → _ := fun hl => names_any (tnames l) 28 #[.pointer (some ⟨w.heap.size, 0, none⟩)] (enters_of Tryd.func28 (by kernel_rfl) rfl) (w.alloc (.cells #[.slice a l.length c] 22)) (hT.below hb) (by rw [hsn]; exact hl) hszs (tellsT a c l w.heap.size _ (h.below hb) hcell)
  rw [hsn] at hnames
  have hcon : ∀ V, Below (w.alloc (.cells #[.slice a l.length c] 22)).heap.size (w.alloc (.cells #[.slice a l.length c] 22)) V → _ := fun V hV => containsT_any 30 #[] (fun t => !oneB t) (enters_of Tryd.func30 (by kernel_rfl) rfl) a c l V ((h.below hb).below hV) (fun t V' ht hV' => may2_any t V' ((((h.below hb).below hV).below hV').2 t ht) (((hT.below hb).below hV).below hV'))
  have HB := hide hb
  have Hn := hide hnames
  have Hc := hide hcon
  have Hcell := hide hcell
  clear hb hnames hcon hcell hT h hszs hsn
  unfold tmayB
  obtain ⟨q1, hq1⟩ : ∃ q, namesGo [] (tnames l) = q := ⟨_, rfl⟩
  obtain ⟨q2, hq2⟩ : ∃ q, (l.any fun t => !oneB t) = q := ⟨_, rfl⟩
  rw [hq1] at Hn ⊢
  rw [hq2] at Hc ⊢
  clear hq1 hq2
  by_cases h16 : l.length ≤ 16
  · have d16 : (l.length : Int) ≤ 16 := by omega
    rw [decide_eq_true h16]
    have Hn2 := hide (Hn.out (by omega))
    clear Hn h16
    go_enter Tryd.func12, Tryd.ntmps12
    go_wp2_with fail
    (with_reducible refine Hn2.out.mono ?_)
    rintro r V ⟨rfl, hb1⟩
    have hcl := bcell hb1 Hcell.out
    have HB1 := hide (HB.out.trans (hb1.mono HB.out.size))
    have Hc2 := hide (Hc.out V hb1)
    have hsz : w.heap.size < V.heap.size := by have := hb1.size; simp at this; omega
    clear hb1 Hn2 Hc
    cases q1
    · go_wp2
      go_ret
      exact ⟨rfl, HB1.out⟩
    · go_wp2_with fail
      (with_reducible refine Hc2.out.mono ?_)
      rintro r V2 ⟨rfl, hb2⟩
      have HB2 := hide (HB1.out.trans (hb2.mono HB1.out.size))
      clear hb2 Hc2 hcl
      go_wp2
      go_ret
      exact ⟨ret_bool (by simp), HB2.out⟩
  · have d16 : 16 < (l.length : Int) := by omega
    have e16 : decide ((l.length : Int) ≤ 16) = false := by simp; omega
    rw [decide_eq_false h16]
    have hcl := Hcell.out
    clear Hn Hc h16
    go_enter Tryd.func12, Tryd.ntmps12
    go_wp2
    go_ret
    exact ⟨rfl, HB.out⟩
end Go.Proofs.YteealadflekffaaDoor
