/- witanref29's Book: Lost. -/
import Derived.Test.YtmcajoccfbebiaaRTD
namespace Go.Proofs.Ytmcajoccfbebiaa
open Go Go.RowKit Go.MapKept Go.Sort

theorem filter_lt {α : Type} {p q : α → Bool} : ∀ {l : List α}, (∀ x ∈ l, q x = true → p x = true) → ∀ {x}, x ∈ l → p x = true → q x = false → (l.filter q).length < (l.filter p).length
  | [], _, x, hx, _, _ => by cases hx
  | y :: l, h, x, hx, h1, h2 => by
    have hle : (l.filter q).length ≤ (l.filter p).length := by
      have : (l.filter q) = (l.filter p).filter q := by
        rw [List.filter_filter]
        refine List.filter_congr fun z hz => ?_
        cases hq : q z with
        | false => simp
        | true => simp [h z (.tail _ hz) hq]
      rw [this]
      exact List.length_filter_le _ _
    rcases List.mem_cons.1 hx with rfl | hx
    · rw [List.filter_cons, List.filter_cons, h1, h2]
      simp
      omega
    · have ih := filter_lt (fun z hz => h z (.tail _ hz)) hx h1 h2
      rw [List.filter_cons, List.filter_cons]
      cases hq : q y with
      | false => cases p y <;> simp <;> omega
      | true =>
        rw [h y (.head _) hq]
        simpa using ih

def inR (set : List Int) (x : Int) : Bool := set.any fun y => y == x
theorem inR_snoc (set : List Int) (y x : Int) : inR (set ++ [y]) x = (inR set x || y == x) := by unfold inR; simp
/-- How many are not in the set yet. -/
def outR (L : List Sp) (set : List Int) : Nat := (L.filter fun p => !inR set p.id).length
theorem outR_snoc {L : List Sp} {set : List Int} {p : Sp} (hp : p ∈ L) (h : inR set p.id = false) : outR L (set ++ [p.id]) < outR L set :=
  filter_lt (fun x _ hx => by rw [inR_snoc] at hx; simp at hx ⊢; exact hx.1) hp (by rw [h]; rfl) (by rw [inR_snoc]; simp)
theorem taken_held {L : List Sp} {set : List Int} (ha : (L.map Sp.id).Pairwise (· < ·)) (h : ∀ x, inR set x = true → Held L x) {p : Sp} (hp : p ∈ L) (ht : takenB p set = true) : Held L p.id := by
  have e := getD_mem_eq ha hp
  unfold takenB at ht
  rw [Bool.or_eq_true] at ht
  rcases ht with ht | ht
  · exact .plain (by rw [e]; exact ht)
  · obtain ⟨j, hj, hall⟩ := List.any_eq_true.1 ht
    exact .just (by rw [e]; exact hj) fun x hx => h x (List.all_eq_true.1 hall x hx)
theorem closed_held {L : List Sp} {set : List Int} (hc : ∀ p ∈ L, inR set p.id = true ∨ takenB p set = false) {x : Int} (hx : Held L x) : inR set x = true := by
  have key : ∀ x, x ∈ L.map Sp.id → takenB (getD L x) set = true → inR set x = true := fun x hm ht => by
    obtain ⟨p, hp, rfl⟩ := List.mem_map.1 hm
    have hg : getD L p.id ∈ L := by
      unfold getD getS
      cases e : L.find? fun q => q.id == p.id with
      | none => exact absurd (List.find?_eq_none.1 e p hp) (by simp)
      | some q => exact List.mem_of_find?_eq_some e
    rcases hc _ hg with h | h
    · rwa [getD_id] at h
    · rw [h] at ht
      cases ht
  induction hx with
  | plain hp => exact key _ (getD_mem (.inl hp)) (by unfold takenB; rw [hp]; rfl)
  | just hj hall ih =>
    refine key _ (getD_mem (.inr fun e => by rw [e] at hj; simp at hj)) ?_
    unfold takenB
    rw [Bool.or_eq_true]
    exact .inr (List.any_eq_true.2 ⟨_, hj, List.all_eq_true.2 ih⟩)

set_option maxRecDepth 100000 in
set_option maxHeartbeats 16000000 in
theorem rlost_any (B r : Nat) (v : Value) (L : List Sp) (w : World) (h : RefB B w r v L) :
    Calls Try.prog 39 #[.pointer (some ⟨r, 0, none⟩)] w fun e w' => ∃ v ll, e = .returned v ∧ NIs w' v ll ∧ (∃ P : Int → Bool, (∀ x ∈ L.map Sp.id, P x = true ↔ Held L x) ∧ ll = (L.map Sp.id).filter fun x => !P x) ∧ Below w.heap.size w w' := by
  obtain ⟨va, vc, rfl⟩ := h.form
  have hlen := h.len
  have hasc := h.asc
  obtain ⟨i1, hi1, hu0, hu1, hu2⟩ := int_parts
  have Hi1 := hide hi1
  have Hu0 := hide hu0
  have Hu1 := hide hu1
  have Hu2 := hide hu2
  have H := hide h
  have Hasc := hide hasc
  clear h hasc hi1 hu0 hu1 hu2
  go_enter Try.func39, Try.ntmps39
  go_wp2
  go_loopw [3] (fun vs wr => ∃ (set : List Int) (sa : Option Addr) (sc : Nat), vs = .slice sa set.length sc ∧ set.length ≤ 1000 ∧ Hid (wr.ownsRow w.heap.size 3 1 (.slice sa set.length sc) set.length (set.map (.int .i64)) ∧ (∀ x, inR set x = true → Held L x) ∧ set.length + outR L set ≤ L.length ∧ Below w.heap.size w wr)) (fun vs _ => 2000 - sliceLen vs)
  case atStart => exact ⟨[], none, 0, rfl, by simp, World.ownsRow_nil _ _ _ _, fun x hx => by simp [inR] at hx, by simp [outR]; exact List.length_filter_le _ _, Below.refl _ _⟩
  case round =>
    obtain ⟨set, sa, sc, rfl, hsl, hrel⟩ := hrel
    obtain ⟨wo, rfl⟩ : ∃ wo : World, wo = wr := ⟨_, rfl⟩
    have Hrel := hide hrel.out
    clear hrel
    go_wp2
    go_loopw [3, 4, 5] (fun vs vm vi wr => ∃ (s2 : List Int) (sa2 : Option Addr) (sc2 : Nat) (more : Bool) (i : Nat), i ≤ L.length ∧ vs = .slice sa2 s2.length sc2 ∧ vm = .bool more ∧ vi = .int .i64 i ∧ s2.length ≤ 1000 ∧ Hid (wr.ownsRow w.heap.size 3 1 (.slice sa2 s2.length sc2) s2.length (s2.map (.int .i64)) ∧ (∀ x, inR s2 x = true → Held L x) ∧ s2.length + outR L s2 ≤ L.length ∧ Below w.heap.size w wr ∧ (set.length ≤ s2.length ∧ (more = true → set.length < s2.length)) ∧ (more = false → ∀ k (hk : k < L.length), k < i → inR s2 L[k].id = true ∨ takenB L[k] s2 = false))) (fun _ _ vi _ => L.length - (intOf vi).toNat)
    case atStart =>
      obtain ⟨h1, h2, h3, h4⟩ := Hrel.out
      exact ⟨set, sa, sc, false, 0, Nat.zero_le _, rfl, rfl, rfl, hsl, h1, h2, h3, h4, ⟨Nat.le_refl _, fun e => by cases e⟩, fun _ k _ hk => by omega⟩
    case round =>
      obtain ⟨s2, sa2, sc2, more, i, hi, rfl, rfl, rfl, hs2, hq⟩ := hrel
      obtain ⟨hrow, hheld, hcnt, hbw, hmore, hno⟩ := hq.out
      have hR := H.out.below hbw
      have HR := hide hR
      have c0 := (cells1b hR.blk).1
      have hzw : w.heap.size ≤ wr.heap.size := hbw.size
      by_cases hli : i < L.length
      · obtain ⟨g, c, e, d0, d1, d2⟩ := hR.at hli
        injection e with e1 e2 e3
        subst e1 e3
        clear e2
        have hn := NIs.of_row (l := s2) (by omega) hrow
        have hjs := hR.js _ (List.getElem_mem hli)
        have hmem := List.getElem_mem hli
        have hth := fun ht => taken_held Hasc.out hheld hmem ht
        have hos := fun e => outR_snoc (set := s2) hmem e
        have hnx : ∀ s3 : List Int, (∀ x, inR s2 x = true → inR s3 x = true) → True := fun _ _ => trivial
        have hin := rin_any (.slice sa2 s2.length sc2) s2 L[i].id wr hn
        have hno' : more = false → (inR s2 L[i].id = true ∨ takenB L[i] s2 = false) → ∀ k (hk : k < L.length), k < i + 1 → inR s2 L[k].id = true ∨ takenB L[k] s2 = false := fun e h k hk hki => by
          rcases Nat.lt_or_ge k i with q | q
          · exact hno e k hk q
          · obtain rfl : k = i := by omega
            exact h
        obtain ⟨p, hp⟩ : ∃ p, L[i] = p := ⟨_, rfl⟩
        rw [hp] at d0 d1 d2 hjs hth hin
        simp only [hp] at hos hno'
        have hta := rtaken_any p (.slice sa2 s2.length sc2) s2 wr (hjs.2.js (by omega)) hn
        obtain ⟨pid, pp, js, pv⟩ := p
        simp only at d0 d1 d2 hjs hth hin hos hno' hta
        obtain ⟨pa, pc, rfl⟩ := hjs.2.form
        change Calls _ _ _ _ (fun e w' => e = .returned (.bool (inR s2 pid)) ∧ wr = w') at hin
        have Hin := hide hin
        have Hta := hide hta
        have Hheld := hide hheld
        have Hrow := hide hrow
        have Hbw := hide hbw
        have Hth := hide hth
        have Hos := hide hos
        have Hno := hide hno'
        have Hmore := hide hmore
        have Hcell : Hid (∀ V, Below wr.heap.size wr V → V.cell? ⟨r, 0, none⟩ = some (.slice (some ⟨g, 0, none⟩) L.length vc) ∧ V.cell? ⟨g, i * 3, none⟩ = some (.int .i64 pid)) := hide fun V hV => ⟨(hV.cell (lt_of_cell c0)).trans c0, (hV.cell (lt_of_cell d0)).trans d0⟩
        clear hq hrow hheld hbw hmore hno hR hn hjs hmem hth hos hnx hin hno' hp hta
        cases hi2 : inR s2 pid with
        | true =>
          rw [hi2] at Hin
          have HF := hide (fun e => Hno.out e (.inl hi2))
          clear hi2
          go_wp2_with fail
          (with_reducible refine Hin.out.mono ?_)
          rintro e V ⟨rfl, rfl⟩
          go_wp2
          go_roundw
          case rel => exact ⟨s2, sa2, sc2, more, i + 1, by omega, rfl, rfl, by go_num, hs2, Hrow.out, Hheld.out, hcnt, Hbw.out, Hmore.out, HF.out⟩
          case measure => simp [intOf]; omega
        | false =>
          rw [hi2] at Hin
          have hlt := Hos.out hi2
          cases ht : takenB ⟨pid, pp, js, .slice pa js.length pc⟩ s2 with
          | false =>
            rw [ht] at Hta
            have HF := hide (fun e => Hno.out e (.inr ht))
            clear hi2 ht hlt
            go_wp2_with fail
            (with_reducible refine Hin.out.mono ?_)
            rintro e V ⟨rfl, rfl⟩
            go_wp2_with fail
            (with_reducible refine Hta.out.mono ?_)
            rintro e V ⟨rfl, hbV⟩
            have HbV := hide (Hbw.out.trans (hbV.mono Hbw.out.size))
            have HrV := hide (owns_below Hrow.out hbV)
            clear hbV
            go_wp2
            go_roundw
            case rel => exact ⟨s2, sa2, sc2, more, i + 1, by omega, rfl, rfl, by go_num, hs2, HrV.out, Hheld.out, hcnt, HbV.out, Hmore.out, HF.out⟩
            case measure => simp [intOf]; omega
          | true =>
            rw [ht] at Hta
            have hh := Hth.out ht
            have Hh : Hid (∀ x, inR (s2 ++ [pid]) x = true → Held L x) := hide fun x hx => by
              rw [inR_snoc, Bool.or_eq_true] at hx
              rcases hx with hx | hx
              · exact Hheld.out x hx
              · obtain rfl : pid = x := by simpa using hx
                exact hh
            have hc2 : (s2 ++ [pid]).length + outR L (s2 ++ [pid]) ≤ L.length := by rw [List.length_append, List.length_singleton]; omega
            have Hc2 := hide hc2
            have hs3 : s2.length < 1000 := by omega
            clear hi2 ht hlt hh hc2
            go_wp2_with fail
            (with_reducible refine Hin.out.mono ?_)
            rintro e V ⟨rfl, rfl⟩
            go_wp2_with fail
            (with_reducible refine Hta.out.mono ?_)
            rintro e V ⟨rfl, hbV⟩
            have HbV := hide (Hbw.out.trans (hbV.mono Hbw.out.size))
            have HrV := hide (owns_below Hrow.out hbV)
            clear c0 d0 d1 d2
            obtain ⟨c0, d0⟩ := Hcell.out V hbV
            have hzV : w.heap.size ≤ V.heap.size := HbV.out.size
            clear hbV
            go_wp2_with (at_builtin; refine wpList_append_own _ rfl (.tmp 39) (.tmp 48) _ rfl w.heap.size 3 i1 (.int .i64 0) 1 8 Try.underlying36 Hi1.out Hu0.out Hu1.out Hu2.out rfl (by decide) (.slice sa2 s2.length sc2) s2.length _ rfl (HrV.out.alloc _) ⟨V.heap.size, 0, none⟩ 1 1 [.int .i64 pid] rfl rfl (World.news_of_block (cs := #[.int .i64 pid]) (heap_alloc_new V _)) (by simp [Value.oneCell']) (by unfold maxLen; omega) (by omega) (by simp only [World.size_alloc]; omega) ?_; intro v3 X ho3 hg3 _; obtain ⟨na, nc, rfl⟩ := row_form ho3; have HX := hide ((HbV.out.alloc hzV _).grown hg3 (by simp only [World.size_alloc]; omega) (fun k e => row_own HrV.out k e)); have Ho3 := hide ho3; clear ho3 hg3)
            go_roundw
            case rel => exact ⟨s2 ++ [pid], na, nc, true, i + 1, by omega, by simp, rfl, by go_num, by simp; omega, by simpa using Ho3.out, Hh.out, Hc2.out, HX.out, ⟨by have := Hmore.out.1; simp; omega, fun _ => by have := Hmore.out.1; simp; omega⟩, fun e => by cases e⟩
            case measure => simp [intOf]; omega
      · obtain rfl : i = L.length := by omega
        have HF := hide (And.intro hrow (And.intro hheld (And.intro hcnt hbw)))
        clear hq hrow hheld hbw
        cases more with
        | true =>
          have hml := hmore.2 rfl
          clear hmore hno hcnt
          go_wp2
          go_roundw
          case rel => exact ⟨s2, sa2, sc2, rfl, hs2, HF.out.1, HF.out.2.1, HF.out.2.2.1, HF.out.2.2.2⟩
          case measure => simp only [sliceLen]; omega
        | false =>
          have hc : ∀ p ∈ L, inR s2 p.id = true ∨ takenB p s2 = false := fun p hp => by
            obtain ⟨k, hk, rfl⟩ := List.getElem_of_mem hp
            exact hno rfl k hk hk
          have Hc := hide hc
          clear hmore hno hcnt hc
          obtain ⟨wp, rfl⟩ : ∃ wp : World, wp = wr := ⟨_, rfl⟩
          go_wp2
          go_loopw [6, 7] (fun vo vi wr => ∃ (i : Nat) (oa : Option Addr) (on oc : Nat), i ≤ L.length ∧ on ≤ i ∧ vi = .int .i64 i ∧ vo = .slice oa on oc ∧ Hid ((((L.take i).map Sp.id).filter fun x => !inR s2 x).length = on ∧ wr.ownsRow wp.heap.size 3 1 (.slice oa on oc) on ((((L.take i).map Sp.id).filter fun x => !inR s2 x).map (.int .i64)) ∧ Below wp.heap.size wp wr)) (fun _ vi _ => L.length - (intOf vi).toNat)
          case atStart => exact ⟨0, none, 0, 0, Nat.zero_le _, Nat.le_refl _, rfl, rfl, by simp, by simpa using World.ownsRow_nil _ _ _ _, Below.refl _ _⟩
          case round =>
            obtain ⟨i, oa, on, oc, hi, hon, rfl, rfl, hq⟩ := hrel
            obtain ⟨hcn, hro, hbq⟩ := hq.out
            have hR := HR.out.below hbq
            clear c0
            have c0 := (cells1b hR.blk).1
            have hzq : wp.heap.size ≤ wr.heap.size := hbq.size
            by_cases hli : i < L.length
            · obtain ⟨g, c, e, d0, _, _⟩ := hR.at hli
              injection e with e1 e2 e3
              subst e1 e3
              clear e2
              have hn : NIs wr (.slice sa2 s2.length sc2) s2 := NIs.of_row (l := s2) (by omega) (owns_below HF.out.1 hbq)
              have htk : (((L.take (i + 1)).map Sp.id).filter fun x => !inR s2 x) = (((L.take i).map Sp.id).filter fun x => !inR s2 x) ++ (if inR s2 L[i].id then [] else [L[i].id]) := by
                rw [List.take_succ_eq_append_getElem hli, List.map_append, List.filter_append]
                congr 1
                simp only [List.map_cons, List.map_nil, List.filter_cons, List.filter_nil]
                cases inR s2 L[i].id <;> rfl
              obtain ⟨z, hz⟩ : ∃ z, L[i].id = z := ⟨_, rfl⟩
              rw [hz] at d0 htk
              have hin := rin_any (.slice sa2 s2.length sc2) s2 z wr hn
              change Calls _ _ _ _ (fun e w' => e = .returned (.bool (inR s2 z)) ∧ wr = w') at hin
              have Hin := hide hin
              have Htk := hide htk
              have Hro := hide hro
              have Hbq := hide hbq
              have Hcn := hide hcn
              clear hq hcn hro hbq hR hn htk hz hin
              cases hi2 : inR s2 z with
              | true =>
                rw [hi2] at Hin Htk
                simp only [if_true, List.append_nil] at Htk
                clear hi2
                go_wp2_with fail
                (with_reducible refine Hin.out.mono ?_)
                rintro e V ⟨rfl, rfl⟩
                go_wp2
                go_roundw
                case rel => exact ⟨i + 1, oa, on, oc, by omega, by omega, by go_num, rfl, by rw [Htk.out]; exact Hcn.out, by rw [Htk.out]; exact Hro.out, Hbq.out⟩
                case measure => simp [intOf]; omega
              | false =>
                rw [hi2] at Hin Htk
                simp only [Bool.false_eq_true, if_false] at Htk
                clear hi2
                go_wp2_with fail
                (with_reducible refine Hin.out.mono ?_)
                rintro e V ⟨rfl, rfl⟩
                go_wp2_with (at_builtin; refine wpList_append_own _ rfl (.tmp 72) (.tmp 81) _ rfl wp.heap.size 3 i1 (.int .i64 0) 1 8 Try.underlying36 Hi1.out Hu0.out Hu1.out Hu2.out rfl (by decide) (.slice oa on oc) on _ rfl (Hro.out.alloc _) ⟨wr.heap.size, 0, none⟩ 1 1 [.int .i64 z] rfl rfl (World.news_of_block (cs := #[.int .i64 z]) (heap_alloc_new wr _)) (by simp [Value.oneCell']) (by unfold maxLen; omega) (by omega) (by simp only [World.size_alloc]; omega) ?_; intro v3 X ho3 hg3 _; obtain ⟨na, nc, rfl⟩ := row_form ho3; have HX := hide ((Hbq.out.alloc hzq _).grown hg3 (by simp only [World.size_alloc]; omega) (fun k e => row_own Hro.out k e)); have Ho3 := hide ho3; clear ho3 hg3)
                go_roundw
                case rel => exact ⟨i + 1, na, on + 1, nc, by omega, by omega, by go_num, rfl, by rw [Htk.out, List.length_append, Hcn.out]; rfl, by rw [Htk.out, List.map_append]; exact Ho3.out, HX.out⟩
                case measure => simp [intOf]; omega
            · obtain rfl : i = L.length := by omega
              rw [List.take_length] at hcn hro
              have hnf : NIs wr (.slice oa on oc) ((L.map Sp.id).filter fun x => !inR s2 x) := NIs.of_row (by omega) (by rw [hcn]; exact hro)
              have HN := hide hnf
              have HB := hide (HF.out.2.2.2.trans (hbq.mono HF.out.2.2.2.size))
              clear hq hcn hro hbq hR hnf
              go_wp2
              go_ret
              exact ⟨_, _, rfl, HN.out, ⟨inR s2, fun x _ => ⟨HF.out.2.1 x, closed_held Hc.out⟩, rfl⟩, HB.out⟩
end Go.Proofs.Ytmcajoccfbebiaa
