/- MemoryPlays: the walk. -/
import Derived.Test.YteealadflekffaaRM9
import Derived.Deep.CutBlock
import Derived.Laws.OwnMore
namespace Go.Proofs.Yteealadflekffaa
open Go Go.RowKit Go.MapKept

/-- append onto a row of one's own, whether there is something to append or not. -/
theorem wpList_append_any {P : Program} (w : World) {ops : Array Oper} {rest : List Oper} {o : Oper} {a : Act} {Q : Exit → Act → World → Prop} (hgd : o.guard = none) (s x : Operand) (t : TypeId)
    (ho : o.op = .call { callee := .builtin .append, args := #[s, x], argTypes := #[t, t] })
    (base : Nat) (e : TypeId) (i : TypeInfo) (z : Value) (size bytes : Nat) (ht : P.underlying t = some (.slice e)) (hi : P.info? e = some i) (hz : i.zero = some z)
    (hsize : i.size = size) (hby : i.bytes = bytes) (hzs : z.cells.size = size) (hsz : 0 < size)
    (v : Value) (n : Nat) (xs : List Value) (hs : a.eval s = v) (hown : w.ownsRow base e size v n xs)
    (vx : Value) (m : Nat) (news : List Value) (hx : a.eval x = vx) (hsrc : (vx = .slice none 0 0 ∧ m = 0 ∧ news = []) ∨ ∃ ad c, vx = .slice (some ad) m c ∧ news.length = m * size ∧ ∀ j u, news[j]? = some u → w.cell? (ad.add j) = some u)
    (h1 : ∀ u ∈ news, u.oneCell' = true)
    (h63 : n + m ≤ maxLen) (hbytes : (n + m) * bytes ≤ 140737488355328) (hbase : base ≤ w.heap.size)
    (h : ∀ v' w', w'.ownsRow base e size v' (n + m) (xs ++ news) → w.grownBy w' v.ownBlock → wpList P ops Q rest (a.put o.dst v') w') : wpList P ops Q (o :: rest) a w := by
  rcases hsrc with ⟨rfl, rfl, rfl⟩ | ⟨ad, c, rfl, hl, hnews⟩
  · refine wpList_plain hgd fun K hK' => ?_
    have hrun := run_append_owned_none (P := P) w base t o.type e i size ht hi v n xs hown
    unfold Oper.wp
    simp [execOp, ho, resolve, invoke, builtin, hs, hx, hrun, Result.andThen]
    exact hK' _ _ (h _ w (by simpa using hown) (World.grownBy.refl _ _))
  · exact wpList_append_own w hgd s x t ho base e i z size bytes ht hi hz hsize hby hzs hsz v n xs hs hown ad m c news hx hl hnews h1 h63 hbytes hbase fun v' w' h2 h3 _ => h v' w' h2 h3

theorem sl_src2 {w : World} {a : Option Addr} {n c : Nat} {s : List Vl} (h : SlIs w (.slice a n c) s) : (Value.slice a n c = .slice none 0 0 ∧ s.length = 0 ∧ flat s = []) ∨ ∃ ad c', Value.slice a n c = .slice (some ad) s.length c' ∧ (flat s).length = s.length * 3 ∧ ∀ j u, (flat s)[j]? = some u → w.cell? (ad.add j) = some u := by
  obtain ⟨rfl, h1, h2⟩ := sl_src h
  cases a with
  | none =>
    obtain ⟨q1, rfl⟩ := h1 rfl
    have : s = [] := List.eq_nil_of_length_eq_zero q1
    subst this
    exact .inl ⟨rfl, rfl, rfl⟩
  | some p => exact .inr ⟨p, c, rfl, flat_length s, h2 p rfl⟩
/-- Both memories, at these two pointers. -/
def Both (w0 wr : World) (n : Nat) (v11 v13 : Value) : Prop := ∃ b mm r c a M G, v11 = .pointer (some ⟨b, 0, none⟩) ∧ v13 = .pointer (some ⟨r, 0, none⟩) ∧ Pair w0 wr n b mm r c a M G
/-- The same, with the round's things. -/
def Mid (w0 wx : World) (n X : Nat) (o : OpD) (vin v11 v13 : Value) : Prop := ∃ b mm r c a M G, v11 = .pointer (some ⟨b, 0, none⟩) ∧ v13 = .pointer (some ⟨r, 0, none⟩) ∧ Pair w0 wx n b mm r c a M G ∧ Round wx X o vin b mm r a M G
theorem cells4 {w : World} {b : Nat} {x y z u : Value} {t : TypeId} (h : w.heap[b]? = some (.cells #[x, y, z, u] t (0, 0))) :
    w.cell? ⟨b, 0, none⟩ = some x ∧ w.cell? ⟨b, 1, none⟩ = some y ∧ w.cell? ⟨b, 2, none⟩ = some z ∧ w.cell? ⟨b, 3, none⟩ = some u := by
  simp [World.cell?, h]

set_option maxRecDepth 100000 in
set_option maxHeartbeats 8000000 in
theorem plays_mid (lim id t : Int) (la : Option Addr) (lc : Nat) (l : List OpD) (x : Value) (s : List Vl) (w : World) (hi : ∀ i (h : i < l.length), ∃ b0 off, la = some ⟨b0, off, none⟩ ∧ OpAt w b0 (off + i * 4) l[i]) (hl : l.length ≤ 100) (hx : SlIs w x s) (hs : s.length ≤ 10) (h1 : 1 ≤ lim) (h2 : lim ≤ 200) :
    Calls Try.prog 8 #[.int .i64 lim, .slice la l.length lc, .int .i64 id, .int .i64 t, x] w fun e w' => e = .returned (.bool true) ∧ Below w.heap.size w w' := by
  obtain ⟨xa, xn, xc, rfl⟩ := hx.form
  obtain ⟨rfl, _, _⟩ := sl_src hx
  have d : decide ((100 : Int) < l.length) = false := by simp; omega
  have d2 : decide ((10 : Int) < s.length) = false := by simp; omega
  have e1 : decide (lim < 1) = false := by simp; omega
  have e2 : decide (200 < lim) = false := by simp; omega
  have HN := hide (new_any lim h1 h2 w)
  have Hi := hide hi
  have Hx := hide hx
  have Hok := hide (memOk_new lim h1 h2)
  clear hi hx h1 h2
  go_enter Try.func8, Try.ntmps8
  go_wp2_with fail
  (with_reducible refine HN.out.mono ?_)
  rintro e V ⟨b1, m1, rfl, hm, hb, hb1, hm1⟩
  have hbox := heap_new V (.cells #[.int .i64 lim, .int .i64 0, .slice none 0 0] 61)
  have hsV := hb.size
  have hP : Pair w (V.alloc (.cells #[.int .i64 lim, .int .i64 0, .slice none 0 0] 61)) 0 b1 m1 V.heap.size 0 none ⟨lim, 0, []⟩ ⟨lim, 0, []⟩ := by
    have o := ((Only.refl [] V).alloc (.cells #[.int .i64 lim, .int .i64 0, .slice none 0 0] 61))
    have hn : ∀ k, ¬ FsFoot none [] k := fun k hk => by
      rcases hk with ⟨q, _⟩ | ⟨f, hf, _⟩
      · exact q rfl
      · simp at hf
    refine ⟨⟨hm.only o (by simp) (by simp) (by simp), ⟨hbox, ⟨by simp, .inr rfl, by simp⟩, fun k hk => absurd hk (hn k), fun _ => ⟨rfl, rfl⟩⟩, fun k hk hr => ?_⟩, ⟨rfl, rfl, rfl⟩, Hok.out, Hok.out, by simp, ⟨hb1, hm1, hsV⟩, hb.alloc hsV _⟩
    rcases hr with rfl | hr
    · have := hm.foot_lt hk
      omega
    · exact hn k hr
  have HP := hide hP
  clear hm hb hbox hP
  go_wp2
  go_loopw [11, 13, 78] (fun v11 v13 vi wr => ∃ k : Nat, k ≤ l.length ∧ vi = .int .i64 k ∧ Hid (Both w wr k v11 v13)) (fun _ _ vi _ => l.length - (intOf vi).toNat)
  case atStart => exact ⟨0, Nat.zero_le _, rfl, _, _, _, _, _, _, _, rfl, rfl, HP.out⟩
  case round =>
    obtain ⟨k, hk, rfl, hB⟩ := hrel
    obtain ⟨b, mm, r, c, a, M, G, rfl, rfl, hP⟩ := hB.out
    have HP := hide hP
    by_cases hlk : k < l.length
    · obtain ⟨b0, off, rfl, hO⟩ := Hi.out k hlk
      obtain ⟨c0, c1, c2, c3, c4, c5⟩ := hO.below hP.below
      clear hO
      obtain ⟨o, ho⟩ : ∃ o, l[k] = o := ⟨_, rfl⟩
      rw [ho] at c0 c1 c2 c3 c4 c5
      have i1 : (k : Int) < (l.length : Int) := by omega
      have i2 : (0 : Int) ≤ (k : Int) := by omega
      have hbO : Below wr.heap.size wr (wr.alloc (.cells #[.int .i64 o.kind, .int .i64 o.t, .int .i64 o.id, .slice o.a o.n o.c] 52)) := ((Only.refl [] wr).alloc _).below
      have hX := heap_new wr (.cells #[.int .i64 o.kind, .int .i64 o.t, .int .i64 o.id, .slice o.a o.n o.c] 52)
      obtain ⟨x0, x1, x2, x3⟩ := cells4 hX
      by_cases hn : 10 < o.n
      · have dn : (10 : Int) < o.n := by omega
        have BO := hide (hP.below.trans (hbO.mono hP.below.size))
        clear hP ho hn
        go_wp2_with (go_at_call 16; refine (known5 _).mono ?_; rintro e w' ⟨rfl, hb⟩)
        go_ret
        exact ⟨rfl, BO.out.trans (hb.mono BO.out.size)⟩
      · have dn : decide ((10 : Int) < o.n) = false := by simp; omega
        obtain ⟨hsn, hso⟩ := c4 (by omega)
        have hs10 : o.s.length ≤ 10 := by omega
        have hb2 : Below wr.heap.size wr ((wr.alloc (.cells #[.int .i64 o.kind, .int .i64 o.t, .int .i64 o.id, .slice o.a o.n o.c] 52)).alloc (.cells #[] 28)) := (((Only.refl [] wr).alloc _).alloc _).below
        have Hsrc := hide (sl_src2 ((hso.only (Only.of_below hb2 []) (by simp))))
        have hem := (heap_alloc2 wr (.cells #[.int .i64 o.kind, .int .i64 o.t, .int .i64 o.id, .slice o.a o.n o.c] 52) (.cells #[] 28)).2
        have Hown := hide (own_empty (B := wr.heap.size + 1) (k := 3) hem (Nat.le_refl _))
        obtain ⟨jv, hi', hz0', hz1', hz2'⟩ := info_parts3 vinfo
        have Hb2 := hide hb2
        have HX0 := hide ((heap_alloc2 wr (.cells #[.int .i64 o.kind, .int .i64 o.t, .int .i64 o.id, .slice o.a o.n o.c] 52) (.cells #[] 28)).1)
        have Hsn := hide hsn
        have Hso := hide hso
        clear hP ho hn hb2 hem hso hsn x0 x1 x2 x3 hX
        go_upto_block 2 with (at_builtin; refine wpList_append_any _ rfl (.tmp 87) (.tmp 89) _ rfl (wr.heap.size + 1) 28 jv (.agg #[.int .u8 0, .int .i64 0, .string ⟨#[]⟩]) 3 32 Try.underlying26 hi' hz0' hz1' hz2' rfl (by decide) (.slice (some ⟨wr.heap.size + 1, 0, none⟩) 0 0) 0 [] rfl Hown.out (.slice o.a o.n o.c) o.s.length (flat o.s) rfl Hsrc.out (flat_one o.s) (by unfold maxLen; omega) (by omega) (by simp) ?_; intro vin W2 hown2 hgrow; rw [Nat.zero_add, List.nil_append] at hown2; obtain ⟨ia, ic, rfl⟩ := own_form hown2; have HIn := hide (show OwnV W2 (wr.heap.size + 1) (.slice ia o.s.length ic) o.s from hown2); have BW2 := hide (Hb2.out.grown hgrow (by simp; omega) (fun k e => by have := (World.ownsRow.lt Hown.out k e).1; omega)); have hx2 := (hgrow.block wr.heap.size (by simp; omega) (by simp [Value.ownBlock])).trans HX0.out; obtain ⟨x0, x1, x2, x3⟩ := cells4 hx2; have HX2 := hide hx2; clear hown2 hgrow hx2)
        go_cut [11, 13, 17, 18, 19, 20, 21, 22, 23, 24, 25, 26, 27, 28] from 93 to 172 (fun u11 u13 _ _ _ _ _ _ _ _ _ _ _ _ wx => Hid (Mid w wx (k + 1) wr.heap.size o (.slice ia o.s.length ic) u11 u13))
        case first =>
          by_cases hk1 : o.kind = 1
          · as_aux_lemma =>
              have hk1b : (o.kind == 1) = true := by simpa using hk1
              have H := hide (chain1 HP.out rfl BW2.out HX2.out HIn.out Hso.out (by omega))
              clear hk1
              go_wp2_with fail
              (with_reducible refine H.out.mono ?_)
              rintro e V ⟨id', fr, er, rfl, hVX, h⟩
              obtain ⟨y0, y1, y2, y3⟩ := cells4 (hVX.trans HX2.out)
              have H1 := hide h
              clear h H hVX x0 x1 x2 x3
              go_wp2_with fail
              (with_reducible refine H1.out.mono ?_)
              rintro e V2 ⟨rfl, c', a', M', G', hP2, hR2⟩
              have HF := hide (show Mid w V2 (k + 1) wr.heap.size o (.slice ia o.s.length ic) (.pointer (some ⟨b, 0, none⟩)) (.pointer (some ⟨r, 0, none⟩)) from ⟨_, _, _, _, _, _, _, rfl, rfl, hP2, hR2⟩)
              clear hP2 hR2 H1 y0 y1 y2 y3
              go_wp2
              go_meet
              exact HF
          · have hk1b : (o.kind == 1) = false := by simpa using hk1
            by_cases hk2 : o.kind = 2
            · as_aux_lemma =>
                have hk2b : (o.kind == 2) = true := by simpa using hk2
                have H := hide (chain2 HP.out rfl BW2.out HX2.out HIn.out)
                clear hk1 hk2
                go_wp2_with fail
                (with_reducible refine H.out.mono ?_)
                rintro e V ⟨fi, ft, fa, fn, fc, ok, rfl, hVX, hXV, h⟩
                obtain ⟨y0, y1, y2, y3⟩ := cells4 (((((Only.refl [] V).alloc (.cells #[.int .i64 fi, .int .i64 ft, .slice fa fn fc] 34)).below).block wr.heap.size hXV).trans (hVX.trans HX2.out))
                have H1 := hide h
                clear h H hVX x0 x1 x2 x3
                go_wp2_with fail
                (with_reducible refine H1.out.mono ?_)
                rintro e V2 ⟨ya, yn, yc, rfl, hbx, h⟩
                obtain ⟨z0, z1, z2, _⟩ := cells3 (((((Only.refl [] V2).alloc (.cells #[.int .i64 fi, .int .i64 ft, .slice ya yn yc] 34)).below).block V.heap.size (lt_of_heap hbx)).trans hbx)
                have H2 := hide h
                clear h H1 hbx y0 y1 y2 y3
                go_wp2_with fail
                (with_reducible refine H2.out.mono ?_)
                rintro e V3 ⟨rfl, c', a', M', G', hP2, hR2⟩
                have HF := hide (show Mid w V3 (k + 1) wr.heap.size o (.slice ia o.s.length ic) (.pointer (some ⟨b, 0, none⟩)) (.pointer (some ⟨r, 0, none⟩)) from ⟨_, _, _, _, _, _, _, rfl, rfl, hP2.up (by omega), hR2⟩)
                clear hP2 hR2 H2 z0 z1 z2
                go_wp2
                go_meet
                exact HF
            · have hk2b : (o.kind == 2) = false := by simpa using hk2
              by_cases hk3 : o.kind = 3
              · as_aux_lemma =>
                  have hk3b : (o.kind == 3) = true := by simpa using hk3
                  have H := hide (chain3 HP.out rfl BW2.out HX2.out HIn.out)
                  clear hk1 hk2 hk3
                  go_wp2_with fail
                  (with_reducible refine H.out.mono ?_)
                  rintro e V ⟨b', rfl, hVX, h⟩
                  obtain ⟨y0, y1, y2, y3⟩ := cells4 (hVX.trans HX2.out)
                  have H1 := hide h
                  clear h H hVX x0 x1 x2 x3
                  go_wp2_with fail
                  (with_reducible refine H1.out.mono ?_)
                  rintro e V2 ⟨fi, ft, fa, fn, fc, ok, rfl, _, h⟩
                  have H2 := hide h
                  clear h H1 y0 y1 y2 y3
                  go_wp2_with fail
                  (with_reducible refine H2.out.mono ?_)
                  rintro e V3 ⟨r', rfl, mm', c', a', hP2, hR2⟩
                  have HF := hide (show Mid w V3 (k + 1) wr.heap.size o (.slice ia o.s.length ic) (.pointer (some ⟨b', 0, none⟩)) (.pointer (some ⟨r', 0, none⟩)) from ⟨_, _, _, _, _, _, _, rfl, rfl, hP2.up (by omega), hR2⟩)
                  clear hP2 hR2 H2
                  go_wp2
                  go_meet
                  exact HF
              · have hk3b : (o.kind == 3) = false := by simpa using hk3
                by_cases hk4 : o.kind = 4
                · as_aux_lemma =>
                    have hk4b : (o.kind == 4) = true := by simpa using hk4
                    have H := hide (chain4 HP.out rfl BW2.out HX2.out HIn.out (by omega) (by omega))
                    clear hk1 hk2 hk3 hk4
                    go_wp2_with fail
                    (with_reducible refine H.out.mono ?_)
                    rintro e V ⟨b', rfl, hVX, h⟩
                    obtain ⟨y0, y1, y2, y3⟩ := cells4 (hVX.trans HX2.out)
                    have H1 := hide h
                    clear h H hVX x0 x1 x2 x3
                    go_wp2_with fail
                    (with_reducible refine H1.out.mono ?_)
                    rintro e V2 ⟨fi, ft, fa, fn, fc, ok, rfl, hVX, h⟩
                    obtain ⟨z0, z1, z2, z3⟩ := cells4 (hVX.trans HX2.out)
                    have H2 := hide h
                    clear h H1 y0 y1 y2 y3 hVX
                    go_wp2_with fail
                    (with_reducible refine H2.out.mono ?_)
                    rintro e V3 ⟨id', fr, er, rfl, hP2, hR2⟩
                    have HF := hide (show Mid w V3 (k + 1) wr.heap.size o (.slice ia o.s.length ic) (.pointer (some ⟨b, 0, none⟩)) (.pointer (some ⟨r, 0, none⟩)) from ⟨_, _, _, _, _, _, _, rfl, rfl, hP2.up (by omega), hR2⟩)
                    clear hP2 hR2 H2 z0 z1 z2 z3
                    go_wp2
                    go_meet
                    exact HF
                · have hk4b : (o.kind == 4) = false := by simpa using hk4
                  have HF := hide (show Mid w W2 (k + 1) wr.heap.size o (.slice ia o.s.length ic) (.pointer (some ⟨b, 0, none⟩)) (.pointer (some ⟨r, 0, none⟩)) from ⟨_, _, _, _, _, _, _, rfl, rfl, (HP.out.below' BW2.out).up (by omega), Round.of_far HX2.out HIn.out (Only.refl [] _) (by simp) (fun k hk => .inl (HP.out.two.mi.foot_lt hk)) (fun k hk => .inl (HP.out.two.ri.foot_lt hk))⟩)
                  clear hk1 hk2 hk3 hk4
                  go_wp2
                  go_meet
                  exact HF
        case rest => as_aux_lemma =>
          obtain ⟨wo, rfl⟩ : ∃ wo : World, wo = wr := ⟨_, rfl⟩
          have Hwo := hide HP.out.below.size
          clear HP Hsrc Hown Hb2 HX0 Hsn Hso HIn BW2 HX2 x0 x1 x2 x3 c0 c1 c2 c3 c4 c5
          obtain ⟨b, mm, r, c, a, M, G, rfl, rfl, hP2, hR2⟩ := hcut.out
          have HPR := hide (And.intro hP2 hR2)
          clear hP2 hR2 hcut hi' hz0' hz1' hz2'
          go_wp2_with fail
          go_loopw [175] (fun vi wy => ∃ j : Nat, j ≤ o.s.length ∧ vi = .int .i64 j ∧ Hid (Pair w wy (k + 1) b mm r c a M G ∧ Round wy wo.heap.size o (.slice ia o.s.length ic) b mm r a M G)) (fun vi _ => o.s.length - (intOf vi).toNat)
          case atStart => exact ⟨0, Nat.zero_le _, rfl, HPR.out⟩
          case round =>
            obtain ⟨j, hj, rfl, hq⟩ := hrel
            by_cases hjl : j < o.s.length
            · obtain ⟨s', es, hos⟩ := hq.out.2.own
              obtain ⟨g, gc, z, e, hg, hgw, d0, f0⟩ := hos.at (k := j) (by omega)
              injection e with e1 e2 e3
              subst e1
              have i1 : (0 : Int) ≤ (j : Int) := by omega
              have i2 : (j : Int) < (o.s.length : Int) := by omega
              have HB1 := hide hg
              have HN := hide (show ∀ u : Int, Pair w (wr.setCell ⟨g, j * 3 + 1, none⟩ (.int .i64 u)) (k + 1) b mm r c a M G ∧ Round (wr.setCell ⟨g, j * 3 + 1, none⟩ (.int .i64 u)) wo.heap.size o (.slice (some ⟨g, 0, none⟩) o.s.length ic) b mm r a M G from fun u => ⟨hq.out.1.far (by have := Hwo.out; have := HB1.out; omega) (hq.out.2.far g rfl), hq.out.2.poke rfl u⟩)
              clear hq hos es e2 e3
              go_wp2
              go_roundw
              case rel => exact ⟨j + 1, by omega, by go_num, HN.out _⟩
              case measure => simp [intOf]; omega
            · obtain rfl : j = o.s.length := by omega
              obtain ⟨wq, rfl⟩ : ∃ wq : World, wq = wr := ⟨_, rfl⟩
              have HT := hide (chainT hq.out.1 id (by omega))
              have HX := hide (Hx.out.only (Only.of_below hq.out.1.below []) (by simp))
              clear hq HPR
              go_wp2_with fail
              (with_reducible refine HT.out.mono ?_)
              rintro e V1 ⟨fi, ft, fa, fn, fc, ok, rfl, h⟩
              have HT1 := hide h
              clear h HT
              go_wp2_with fail
              (with_reducible refine HT1.out.mono ?_)
              rintro e V2 ⟨ya, yn, yc, rfl, h⟩
              have HT2 := hide h
              clear h HT1
              go_wp2_with fail
              (with_reducible refine HT2.out.mono ?_)
              rintro e V3 ⟨va, vc, f, out, rfl, rfl, hbq, h⟩
              have HT3 := hide h
              have HX3 : Hid (∀ V, Below V3.heap.size V3 V → SlIs V (.slice xa s.length xc) s) := hide fun V hV => HX.out.only (Only.of_below (hbq.trans (hV.mono hbq.size)) []) (by simp)
              have HB : Hid (Below V3.heap.size V3 V3.drew) := hide (Only.drew (Only.refl [] V3)).below
              obtain ⟨y0, y1, y2, y3, y4, y5, y6, y7⟩ := (HT3.out.below HB.out).cells
              clear h HT2 hbq HX
              go_wp2_with fail
              go_region_held3 (fun V => V.cell? ⟨V1.heap.size, 0, none⟩ = some (.int .i64 fi) ∧ V.cell? ⟨V1.heap.size, 1, none⟩ = some (.int .i64 ft) ∧ V.cell? ⟨V1.heap.size, 2, none⟩ = some (.slice fa f.length fc) ∧ V.cell? ⟨V2.heap.size, 0, none⟩ = some (.int .i64 fi) ∧ V.cell? ⟨V2.heap.size, 1, none⟩ = some (.int .i64 ft) ∧ V.cell? ⟨V2.heap.size, 2, none⟩ = some (.slice ya yn yc) ∧ V.cell? ⟨r, 1, none⟩ = some (.int .i64 G.last) ∧ V.cell? ⟨r, 2, none⟩ = some (.slice a G.l.length c)) (go_keep)
                (first
                  | ((go_at_call 28; have hqq := HT3.out.asked HB.out ((HT3.out.below HB.out).fact ok); (with_reducible refine Calls.mono hqq ?_); clear hqq y0 y1 y2 y3 y4 y5 y6 y7; rintro r0 V ⟨rfl, hb, y0, y1, y2, y3, y4, y5, y6, y7⟩; clear HB; have HB := hb; clear hb))
                  | ((go_at_call 15; have hqq := HT3.out.asked HB.out ((HT3.out.below HB.out).find t _ s (HX3.out _ HB.out)); (with_reducible refine Calls.mono hqq ?_); clear hqq y0 y1 y2 y3 y4 y5 y6 y7; rintro r0 V ⟨rfl, hb, y0, y1, y2, y3, y4, y5, y6, y7⟩; clear HB; have HB := hb; clear hb))
                  | ((go_at_call 32; have hqq := HT3.out.asked HB.out ((HT3.out.below HB.out).rfind t _ s (HX3.out _ HB.out)); (with_reducible refine Calls.mono hqq ?_); clear hqq y0 y1 y2 y3 y4 y5 y6 y7; rintro r0 V ⟨rfl, hb, y0, y1, y2, y3, y4, y5, y6, y7⟩; clear HB; have HB := hb; clear hb))
                  | ((go_at_call 33; have hqq := HT3.out.asked HB.out ((HT3.out.below HB.out).same); (with_reducible refine Calls.mono hqq ?_); clear hqq y0 y1 y2 y3 y4 y5 y6 y7; rintro r0 V ⟨rfl, hb, y0, y1, y2, y3, y4, y5, y6, y7⟩; clear HB; have HB := hb; clear hb))
                  | ((go_at_call 12; have hqq := HT3.out.asked HB.out ((HT3.out.below HB.out).ml); (with_reducible refine Calls.mono hqq ?_); clear hqq y0 y1 y2 y3 y4 y5 y6 y7; rintro r0 V ⟨rfl, hb, y0, y1, y2, y3, y4, y5, y6, y7⟩; clear HB; have HB := hb; clear hb))
                  | ((go_at_call 13; have hqq := HT3.out.asked HB.out ((HT3.out.below HB.out).la); (with_reducible refine Calls.mono hqq ?_); clear hqq y0 y1 y2 y3 y4 y5 y6 y7; rintro r0 V ⟨rfl, hb, y0, y1, y2, y3, y4, y5, y6, y7⟩; clear HB; have HB := hb; clear hb)))
              all_goals
                clear y0 y1 y2 y3 y4 y5 y6 y7
                have HS := hide ((HT3.out.below HB.out).spent)
                obtain ⟨hsf, hso, hsg⟩ := HS.out.small
                have Hsg := hide hsg
                clear hsg
                clear HT3 HB HX3
                go_wp2_with fail
                go_loopw [248] (fun vi wy => ∃ j : Nat, j ≤ out.length ∧ vi = .int .i64 j ∧ Hid (Spent w wy (k + 1) b mm r c a M G V1.heap.size wq.heap.size (V2.heap.size + 1) fi ft f.length (.slice fa f.length fc) (.slice va out.length vc) out)) (fun vi _ => out.length - (intOf vi).toNat)
                case atStart => exact ⟨0, Nat.zero_le _, rfl, HS.out⟩
                case round =>
                  obtain ⟨j, hj, rfl, hq⟩ := hrel
                  by_cases hjl : j < out.length
                  · obtain ⟨wp, rfl⟩ : ∃ wp : World, wp = wr := ⟨_, rfl⟩
                    obtain ⟨bo, cap, e, d2⟩ := hq.out.sp.row hjl
                    injection e with e1 e2 e3
                    subst e1 e3
                    clear e2
                    obtain ⟨s', hs', hos⟩ := hq.out.sp.vals _ (List.getElem_mem hjl)
                    obtain ⟨ga, gc, hgx⟩ := own_form hos
                    rw [hgx] at d2
                    have i1 : (0 : Int) ≤ (j : Int) := by omega
                    have i2 : (j : Int) < (out.length : Int) := by omega
                    have Hgx := hide hgx
                    obtain ⟨m, hm⟩ : ∃ m, s'.length = m := ⟨_, rfl⟩
                    rw [hm] at d2 Hgx
                    have Hm := hide (hs'.symm.trans hm)
                    have hmb : m ≤ 1000000 := by have := Hsg.out _ (List.getElem_mem hjl); have := Hm.out; omega
                    have HQ := hq
                    clear hos hgx hm hs' hq HS
                    go_wp2_with fail
                    clear d2
                    go_loopw [257] (fun vi wz => ∃ q : Nat, q ≤ m ∧ vi = .int .i64 q ∧ Hid (Spent w wz (k + 1) b mm r c a M G V1.heap.size wq.heap.size (V2.heap.size + 1) fi ft f.length (.slice fa f.length fc) (.slice (some ⟨bo, 0, none⟩) out.length vc) out)) (fun vi _ => m - (intOf vi).toNat)
                    case atStart => exact ⟨0, Nat.zero_le _, rfl, HQ.out⟩
                    case round =>
                      obtain ⟨q, hqm, rfl, hq⟩ := hrel
                      by_cases hql : q < m
                      · obtain ⟨bo', cap', e, d2⟩ := hq.out.sp.row hjl
                        injection e with e1 e2 e3
                        injection e1 with e1
                        injection e1 with e1 _ _
                        subst e1
                        obtain ⟨s2, hs2, hos⟩ := hq.out.sp.vals _ (List.getElem_mem hjl)
                        have Hm2 := Hm.out
                        obtain ⟨g, gc', z, e, hg, hgw, d0, f0⟩ := hos.at (k := q) (by omega)
                        rw [Hgx.out] at d2 e
                        injection e with e1 e2 e3
                        subst e1
                        have i3 : (0 : Int) ≤ (q : Int) := by omega
                        have i4 : (q : Int) < (m : Int) := by omega
                        have HN := hide (show ∀ u : Int, Spent w (wr.setCell ⟨g, q * 3 + 1, none⟩ (.int .i64 u)) (k + 1) b mm r c a M G V1.heap.size wq.heap.size (V2.heap.size + 1) fi ft f.length (.slice fa f.length fc) (.slice (some ⟨bo, 0, none⟩) out.length vc) out from fun u => hq.out.poke (List.getElem_mem hjl) Hgx.out q u)
                        clear hq hos hs2 Hm2 e2 e3 hg hgw HQ
                        go_wp2
                        go_roundw
                        case rel => exact ⟨q + 1, by omega, by go_num, HN.out _⟩
                        case measure => simp [intOf]; omega
                      · obtain rfl : q = m := by omega
                        clear HQ Hm Hgx
                        go_wp2
                        go_roundw
                        case rel => exact ⟨j + 1, by omega, by go_num, hq⟩
                        case measure => simp [intOf]; omega
                  · obtain rfl : j = out.length := by omega
                    obtain ⟨wp, rfl⟩ : ∃ wp : World, wp = wr := ⟨_, rfl⟩
                    obtain ⟨p0, p1, p2, _⟩ := cells3 hq.out.bx
                    have HQ := hq
                    clear hq HS
                    go_wp2_with fail
                    clear p0 p1 p2
                    go_loopw [277] (fun vi wz => ∃ q : Nat, q ≤ f.length ∧ vi = .int .i64 q ∧ Hid (Spent w wz (k + 1) b mm r c a M G V1.heap.size wq.heap.size (V2.heap.size + 1) fi ft f.length (.slice fa f.length fc) (.slice va out.length vc) out)) (fun vi _ => f.length - (intOf vi).toNat)
                    case atStart => exact ⟨0, Nat.zero_le _, rfl, HQ.out⟩
                    case round =>
                      obtain ⟨q, hqm, rfl, hq⟩ := hrel
                      by_cases hql : q < f.length
                      · obtain ⟨p0, p1, p2, _⟩ := cells3 hq.out.bx
                        obtain ⟨s2, hs2, hos⟩ := hq.out.own
                        obtain ⟨g, gc', z, e, hg, hgw, d0, f0⟩ := hos.at (k := q) (by omega)
                        injection e with e1 e2 e3
                        subst e1
                        have i3 : (0 : Int) ≤ (q : Int) := by omega
                        have i4 : (q : Int) < (f.length : Int) := by omega
                        have HN := hide (show ∀ u : Int, Spent w (wr.setCell ⟨g, q * 3 + 1, none⟩ (.int .i64 u)) (k + 1) b mm r c a M G V1.heap.size wq.heap.size (V2.heap.size + 1) fi ft f.length (.slice (some ⟨g, 0, none⟩) f.length fc) (.slice va out.length vc) out from fun u => hq.out.poke2 rfl q u)
                        clear hq hos hs2 e2 e3 hg hgw HQ
                        go_wp2
                        go_roundw
                        case rel => exact ⟨q + 1, by omega, by go_num, HN.out _⟩
                        case measure => simp [intOf]; omega
                      · obtain rfl : q = f.length := by omega
                        have HF := hide (show Both w wr (k + 1) (.pointer (some ⟨b, 0, none⟩)) (.pointer (some ⟨r, 0, none⟩)) from ⟨_, _, _, _, _, _, _, rfl, rfl, hq.out.pair⟩)
                        clear HQ hq
                        go_wp2
                        go_roundw
                        case rel => exact ⟨k + 1, by omega, by go_num, HF⟩
                        case measure => simp [intOf]; omega
    · obtain rfl : k = l.length := by omega
      have HB := hide hP.below
      clear hP
      go_wp2_with (go_at_call 16; refine (known5 _).mono ?_; rintro e w' ⟨rfl, hb⟩)
      go_ret
      exact ⟨rfl, HB.out.trans (hb.mono HB.out.size)⟩

theorem plays_walk (lim : Int) (v : Value) (l : List OpD) (id t : Int) (x : Value) (w : World) (hv : OpsIs w v l) (hx : ∃ a n c, x = .slice a n c ∧ n ≤ c ∧ c ≤ maxLen ∧ (n ≤ 1000000 → ∃ s, s.length = n ∧ SlIs w x s)) :
    Calls Try.prog 8 #[.int .i64 lim, v, .int .i64 id, .int .i64 t, x] w fun e w' => e = .returned (.bool true) ∧ Below w.heap.size w w' := by
  obtain ⟨a, n, c, rfl, hn, hc, hx⟩ := hx
  obtain ⟨la, lc, rfl⟩ := hv.form
  by_cases hbig : 100 < l.length ∨ 10 < n
  · exact plays_long lim id t la a l.length lc n c w (by have := hv.1; omega) (by unfold maxLen at hc; omega) hbig
  · obtain ⟨s, hs, hx⟩ := hx (by omega)
    by_cases hlim : lim < 1 ∨ 200 < lim
    · exact plays_bad lim id t la a l.length lc n c w (by omega) (by omega) hlim
    · refine plays_mid lim id t la lc l _ s w (fun i hi => ?_) (by omega) hx (by omega) (by omega) (by omega)
      rcases hv.2 with ⟨b, off, cap, e, h⟩ | ⟨rfl, _⟩
      · injection e with e1 e2 e3
        exact ⟨b, off, e1, h i hi⟩
      · simp at hi
end Go.Proofs.Yteealadflekffaa
