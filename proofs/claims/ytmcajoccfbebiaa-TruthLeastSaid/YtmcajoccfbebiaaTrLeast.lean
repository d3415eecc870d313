/- The walk of TruthLeast. -/
import Derived.Test.YtmcajoccfbebiaaTrLaw
namespace Go.Proofs.Ytmcajoccfbebiaa
open Go Go.RowKit Go.MapKept Go.Sort

theorem plain_bk {w : World} {b m k : Nat} {M : List Sp} (id : Int) (h : Bk w b m M k) (hk : k < 1000) (hwf : (Lit.int .i64 id).wf = true) :
    Calls Try.prog 27 #[.pointer (some ⟨b, 0, none⟩), .int .i64 id] w fun e w' => e = .returned (.tuple #[]) ∧ (∃ M', Bk w' b m M' (k + 1)) ∧ Only [m] w w' := by
  have hl := h.len
  refine (plain_any b m M id w h.book hwf (by omega)).mono ?_
  rintro e w' ⟨rfl, hB, ho⟩
  exact ⟨rfl, ⟨_, h.put hB (by have := h.js id; simp only; omega)⟩, ho⟩
theorem justify_bk {w : World} {b m k : Nat} {M : List Sp} (id : Int) (J : JD) (h : Bk w b m M k) (hk : k < 1000) (hwf : (Lit.int .i64 id).wf = true) (hJ : JOk w J) (hn : J.n ≤ 20) :
    Calls Try.prog 28 #[.pointer (some ⟨b, 0, none⟩), .int .i64 id, J.val] w fun e w' => (∃ p, e = .returned (.bool p)) ∧ (∃ M', Bk w' b m M' (k + 1)) ∧ Only [m] w w' := by
  have hl := h.len
  have hj := h.js id
  obtain ⟨hJl, hJn⟩ := hJ.2 (by omega)
  refine (justify_any b m M id J.jc w h.book hJn hwf (by omega) (by omega)).mono ?_
  rintro e w' ⟨rfl, ⟨q, h1, h2, h3, hB⟩, ho⟩
  refine ⟨⟨_, rfl⟩, ⟨_, h.put hB ?_⟩, ho⟩
  have := congrArg List.length h3
  rw [List.length_map, List.length_append, List.length_map] at this
  split at this <;> simp at this <;> omega

/-- A fact is held up: it is there, and it isn't lost. -/
def heldB (there gone : Int → Bool) (x : Int) : Bool := there x && !gone x
theorem heldB_iff {M : List Sp} {P : Int → Bool} {ll : List Int} (hP : ∀ x ∈ idsS M, P x = true ↔ Held M x) (hll : ll = (idsS M).filter fun x => !P x) (x : Int) :
    heldB (fun x => (idsS M).any fun y => y == x) (fun x => ll.any fun y => y == x) x = true ↔ Held M x := by
  unfold heldB
  rw [Bool.and_eq_true, Bool.not_eq_true', List.any_eq_true, List.any_eq_false]
  constructor
  · rintro ⟨⟨y, hy, e⟩, h⟩
    obtain rfl : y = x := by simpa using e
    refine (hP y hy).1 ?_
    cases hp : P y with
    | true => rfl
    | false => exact absurd (by simp) (h y (by rw [hll]; exact List.mem_filter.2 ⟨hy, by simp [hp]⟩))
  · intro h
    have hm := mem_ids.2 h.mem
    refine ⟨⟨x, hm, by simp⟩, fun y hy e => ?_⟩
    obtain rfl : y = x := by simpa using e
    rw [hll] at hy
    have := (List.mem_filter.1 hy).2
    rw [(hP y hm).2 h] at this
    cases this
/-- What all its justifications say: a fact that is there holds just if it isn't lost. -/
theorem holds_iff {M : List Sp} {H : Int → Bool} (hH : ∀ x, H x = true ↔ Held M x) {L : List Jc} {id : Int} (hL : (L.map Jc.co).Perm ((getD M id).js.map Jc.co)) :
    ((getD M id).plain || L.any fun j => j.tup.all H) = H id := by
  rw [Bool.eq_iff_iff, Bool.or_eq_true, hH, held_iff]
  refine or_congr Iff.rfl ?_
  rw [List.any_eq_true]
  constructor
  · rintro ⟨j, hj, ha⟩
    refine ⟨j.co, hL.mem_iff.1 (List.mem_map.2 ⟨j, hj, rfl⟩), fun y hy => (hH y).1 (List.all_eq_true.1 ha y hy)⟩
  · rintro ⟨c, hc, h⟩
    obtain ⟨j, hj, rfl⟩ := List.mem_map.1 (hL.mem_iff.2 hc)
    exact ⟨j, hj, List.all_eq_true.2 fun y hy => (hH y).2 (h y hy)⟩

/-- Behind the drops: those that are gone are no facts. -/
structure Dropped (M M' : List Sp) (G : Int → Bool) : Prop where
  get : ∀ x, (getD M' x).plain = (if G x then false else (getD M x).plain) ∧ (getD M' x).js = (if G x then [] else (getD M x).js)
  mem : ∀ x ∈ M'.map Sp.id, x ∈ M.map Sp.id ∧ G x = false
theorem Dropped.refl (M : List Sp) : Dropped M M (fun _ => false) := ⟨fun _ => ⟨rfl, rfl⟩, fun _ h => ⟨h, rfl⟩⟩
theorem Dropped.step {M M' : List Sp} {G : Int → Bool} (h : Dropped M M' G) (k : Int) : Dropped M (dropS M' k) (fun x => G x || k == x) := by
  refine ⟨fun x => ?_, fun x hx => ?_⟩
  · rw [getD_drop]
    obtain ⟨h1, h2⟩ := h.get x
    by_cases hk : k = x
    · simp [hk]
    · have : (k == x) = false := by simpa using hk
      rw [if_neg hk, this, Bool.or_false]
      exact ⟨h1, h2⟩
  · obtain ⟨p, hp, rfl⟩ := List.mem_map.1 hx
    unfold dropS at hp
    obtain ⟨hp1, hp2⟩ := List.mem_filter.1 hp
    obtain ⟨h1, h2⟩ := h.mem p.id (List.mem_map.2 ⟨p, hp1, rfl⟩)
    refine ⟨h1, ?_⟩
    rw [h2]
    have : p.id ≠ k := by simpa using hp2
    simpa using fun e : k = p.id => this e.symm
theorem Dropped.congr {M M' : List Sp} {G K : Int → Bool} (h : Dropped M M' G) (e : ∀ x, G x = K x) : Dropped M M' K := by
  have : G = K := funext e
  rwa [← this]
theorem Dropped.held {M M' : List Sp} {G : Int → Bool} (h : Dropped M M' G) (hG : ∀ x, G x = true → ¬ Held M x) {x : Int} (hx : Held M x) : Held M' x := by
  induction hx with
  | plain hp =>
    rename_i id
    have hg : G id = false := by
      cases e : G id with
      | false => rfl
      | true => exact absurd (.plain hp) (hG _ e)
    exact .plain (by rw [(h.get id).1, hg]; exact hp)
  | just hj hall ih =>
    rename_i id j
    have hg : G id = false := by
      cases e : G id with
      | false => rfl
      | true => exact absurd (.just hj hall) (hG _ e)
    exact .just (by rw [(h.get id).2, hg]; exact hj) ih

theorem inSet_any (l : List (Int × Value)) (x : Int) : inSet l x = l.any fun p => p.1 == x := by
  unfold inSet look
  rw [Option.isSome_map]
  induction l with
  | nil => rfl
  | cons q l ih =>
    rw [List.find?_cons, List.any_cons]
    cases q.1 == x
    · exact ih
    · rfl
theorem inSet_drop (l : List (Int × Value)) (k x : Int) : inSet (Go.Proofs.Ytmcajoccfbebiaa.drop l k) x = (inSet l x && !(k == x)) := by
  rw [inSet_any, inSet_any, Bool.eq_iff_iff, Bool.and_eq_true, List.any_eq_true, List.any_eq_true]
  unfold Go.Proofs.Ytmcajoccfbebiaa.drop
  constructor
  · rintro ⟨p, hp, e⟩
    obtain ⟨h1, h2⟩ := List.mem_filter.1 hp
    obtain rfl : p.1 = x := by simpa using e
    exact ⟨⟨p, h1, by simp⟩, by simpa using fun e : k = p.1 => by simp [e] at h2⟩
  · rintro ⟨⟨p, hp, e⟩, h⟩
    obtain rfl : p.1 = x := by simpa using e
    exact ⟨p, List.mem_filter.2 ⟨hp, by simpa using fun e : p.1 = k => by simp [e] at h⟩, by simp⟩
theorem KeepsCells.iter {w w' : World} {b r : Nat} {l left : List (Int × Value)} (h : IIter w b r l left) (ho : Only [r] w w') : KeepsCells w w' := fun p u hp => by
  obtain ⟨_, _, _, _, _, _, _, _, h1, _⟩ := h
  refine (ho.cell (p := p) (lt_of_cell hp) (fun e => ?_)).trans hp
  simp only [List.mem_singleton] at e
  simp only [World.cell?, e, h1] at hp
  cases hp
/-- The walk over the marks leaves the book. -/
theorem BookIs.iter {w w' : World} {b m r g : Nat} {M : List Sp} {l left : List (Int × Value)} (h : BookIs w b m M) (hi : IIter w g r l left) (ho : Only [r] w w') (hm : m ≠ r) : BookIs w' b m M := by
  have hb : b ≠ r := by
    rintro rfl
    obtain ⟨_, _, _, _, _, _, _, _, h1, _⟩ := hi
    rw [h.blk] at h1
    cases h1
  exact ⟨(ho.block b (lt_of_heap h.blk) (by simpa using hb)).trans h.blk, h.map.only ho (by simpa using hm), fun p hp => (h.js p hp).keeps (KeepsCells.iter hi ho), h.wf, h.len⟩
/-- Behind the drops none is lost. -/
theorem none_lost {M M' : List Sp} {G P : Int → Bool} {ll : List Int} (h : Dropped M M' G) (hG : ∀ x, G x = true → ¬ Held M x) (hH : ∀ x ∈ M.map Sp.id, G x = false → Held M x) (hP : ∀ x ∈ idsS M', P x = true ↔ Held M' x) (hll : ll = (idsS M').filter fun x => !P x) : ll = [] := by
  rw [hll, List.filter_eq_nil_iff]
  intro x hx
  obtain ⟨h1, h2⟩ := h.mem x (mem_ids.1 hx)
  simp [(hP x hx).2 (h.held hG (hH x h1 h2))]

set_option maxRecDepth 100000 in
set_option maxHeartbeats 16000000 in
theorem least_walk (vl : Value) (l : List OpD) (w : World) (hl : OpsD w vl l) :
    Calls Try.prog 6 #[vl] w fun e w' => e = .returned (.bool true) ∧ Below w.heap.size w w' := by
  obtain ⟨la, lc, rfl⟩ := hl.form
  have hmm := @run_makeMap Try.prog
  have Hg := hide (great_any _ l w hl)
  have Hl := hide hl
  clear hl
  cases hg : greatO l with
  | true =>
    rw [hg] at Hg
    clear hg
    go_enter Try.func6, Try.ntmps6
    go_wp2_with fail
    (with_reducible refine Hg.out.mono ?_)
    rintro e V ⟨rfl, rfl⟩
    go_wp2_with (go_at_call 25; refine (known29_walk _).mono ?_; rintro e w' ⟨rfl, hk⟩)
    go_ret
    exact ⟨rfl, hk⟩
  | false =>
    rw [hg] at Hg
    obtain ⟨hl60, hn20⟩ := greatO_false hg
    have Hn20 := hide hn20
    have Hnew := hide (new_any w)
    clear hg hn20
    go_enter Try.func6, Try.ntmps6
    go_wp2_with fail
    (with_reducible refine Hg.out.mono ?_)
    rintro e V ⟨rfl, rfl⟩
    go_wp2_with fail
    (with_reducible refine Hnew.out.mono ?_)
    rintro e wn ⟨b, m, rfl, hB, hbn, hbb, hmm0⟩
    have HBn := hide (show Bk wn b m [] 0 from ⟨hB, by simp, fun id => by simp [getD, getS]⟩)
    have Hbn := hide hbn
    clear hB hbn Hg Hnew
    go_wp2_with fail
    go_loopw [29] (fun vi wr => ∃ k : Nat, k ≤ l.length ∧ vi = .int .i64 k ∧ Hid ((∃ M, Bk wr b m M k) ∧ Below w.heap.size w wr)) (fun vi _ => l.length - (intOf vi).toNat)
    case atStart => exact ⟨0, Nat.zero_le _, rfl, ⟨[], HBn.out⟩, Hbn.out⟩
    case round =>
      obtain ⟨k, hk, rfl, hq⟩ := hrel
      by_cases hlk : k < l.length
      · obtain ⟨⟨M, hM⟩, hbw⟩ := hq.out
        obtain ⟨ob, off, cap, e, hat⟩ := (Hl.out.below hbw).at hlk
        injection e with e1 e2 e3
        subst e1 e3
        clear e2
        have hn := Hn20.out _ (List.getElem_mem hlk)
        obtain ⟨D, hD⟩ : ∃ D, l[k] = D := ⟨_, rfl⟩
        rw [hD] at hat hn
        obtain ⟨kd, id, ⟨jr, ja, jn, jc, jt⟩⟩ := D
        obtain ⟨c0, c1, c2, c3, hjo, hwf⟩ := hat
        simp only at c0 c1 c2 c3 hjo hwf hn
        obtain ⟨WO, hWO⟩ : ∃ WO, wr.alloc (Obj.cells #[.int .i64 kd, .int .i64 id, .int .i64 jr, .slice ja jn jc] 55) = WO := ⟨_, rfl⟩
        have hbO : Below wr.heap.size wr WO := by rw [← hWO]; exact ((Only.refl [] wr).alloc _).below
        have hbx := heap_alloc0 wr (Obj.cells #[.int .i64 kd, .int .i64 id, .int .i64 jr, .slice ja jn jc] 55)
        rw [hWO] at hbx
        have o0 : WO.cell? ⟨wr.heap.size, 0, none⟩ = some (.int .i64 kd) := cellAt (i := 0) hbx rfl
        have o1 : WO.cell? ⟨wr.heap.size, 1, none⟩ = some (.int .i64 id) := cellAt (i := 1) hbx rfl
        have o2 : WO.cell? ⟨wr.heap.size, 2, none⟩ = some (.int .i64 jr) := cellAt (i := 2) hbx rfl
        have o3 : WO.cell? ⟨wr.heap.size, 3, none⟩ = some (.slice ja jn jc) := cellAt (i := 3) hbx rfl
        have HbO := hide (hbw.trans (hbO.mono hbw.size))
        have HMO := hide (hM.below hbO)
        have HP := hide (plain_bk id (hM.below hbO) (by omega) hwf)
        have HJ := hide (justify_bk id ⟨jr, ja, jn, jc, jt⟩ (hM.below hbO) (by omega) hwf (hjo.below hbO) hn)
        unfold JD.val at HJ
        simp only at HJ
        have HWO := hide hWO
        have i1 : (k : Int) < (l.length : Int) := by omega
        have i2 : (0 : Int) ≤ (k : Int) := by omega
        have Hfin : Hid (∀ V2, (∃ M', Bk V2 b m M' (k + 1)) → Only [m] WO V2 → (∃ M', Bk V2 b m M' (k + 1)) ∧ Below w.heap.size w V2) := hide fun V2 h1 h2 => ⟨h1, below_only HbO.out h2 (fun i hi => by simp only [List.mem_singleton] at hi; omega) HbO.out.size⟩
        clear hq hM hbw hD hjo hwf hn hWO hbO hbx
        go_upto_region 10 with fail
        rw [HWO.out]
        by_cases h1 : kd = 1
        · subst h1
          go_wp2_with fail
          (with_reducible refine HP.out.mono ?_)
          rintro e V2 ⟨rfl, hM2, ho2⟩
          have HF := Hfin.out V2 hM2 ho2
          have HF := hide HF
          clear hM2 ho2 o0 o1 o2 o3 HP HJ
          go_wp2
          go_roundw
          case rel => exact ⟨k + 1, by omega, by go_num, HF.out⟩
          case measure => simp [intOf]; omega
        · have e1 : (kd == 1) = false := by simpa using h1
          by_cases h2 : kd = 2
          · subst h2
            go_wp2_with fail
            (with_reducible refine HJ.out.mono ?_)
            rintro e V2 ⟨⟨p, rfl⟩, hM2, ho2⟩
            have HF := Hfin.out V2 hM2 ho2
            have HF := hide HF
            clear hM2 ho2 o0 o1 o2 o3 HP HJ
            go_wp2
            go_roundw
            case rel => exact ⟨k + 1, by omega, by go_num, HF.out⟩
            case measure => simp [intOf]; omega
          · have e2 : (kd == 2) = false := by simpa using h2
            obtain ⟨M0, hM0⟩ : ∃ M', Bk WO b m M' (k + 1) := by obtain hM := HMO.out; exact ⟨_, hM.next⟩
            have HF := Hfin.out WO ⟨M0, hM0⟩ (Only.refl _ _)
            have HF := hide HF
            clear hM0 HP HJ
            go_wp2
            go_roundw
            case rel => exact ⟨k + 1, by omega, by go_num, HF.out⟩
            case measure => simp [intOf]; omega
      · obtain rfl : k = l.length := by omega
        obtain ⟨⟨M, hM⟩, hbw⟩ := hq.out
        obtain ⟨w1, rfl⟩ : ∃ w1 : World, w1 = wr := ⟨_, rfl⟩
        have hb1 : ∀ {o : Obj}, Below w1.heap.size w1 (w1.alloc o) := ((Only.refl [] w1).alloc _).below
        have HM := hide hM
        have Hbw := hide hbw
        have HBk : Hid (∀ V, Below w1.heap.size w1 V → BookIs V b m M) := hide fun V hV => hM.book.below hV
        have Hlost := hide (lost_any b m M (w1.alloc (.map #[] 0)) (hM.book.below hb1))
        have hmk := Marks.new w1
        have Hmk := hide hmk
        have hblt : b < w1.heap.size := lt_of_heap hM.book.blk
        have hmlt : m < w1.heap.size := hM.book.map.lt
        clear hq hM hbw hmk hb1 Hl Hn20 HBn Hbn
        go_wp2_with fail
        (with_reducible refine Hlost.out.mono ?_)
        rintro e V0 ⟨v, ll, rfl, hnl, ⟨P, hP, hll⟩, hbl⟩
        obtain ⟨lla, llc, rfl⟩ := hnl.form
        have hb0 : Below w1.heap.size w1 V0 := ((Only.refl [] w1).alloc (.map #[] 0)).below.trans (hbl.mono (by simp))
        have HH : Hid (∀ x, heldB (fun x => (idsS M).any fun y => y == x) (fun x => ll.any fun y => y == x) x = true ↔ Held M x) := hide (heldB_iff hP hll)
        have HG : Hid (∀ x, (ll.any fun y => y == x) = true → ¬ Held M x) := hide fun x hx hh => by
          have := (HH.out x).2 hh
          unfold heldB at this
          simp [hx] at this
        have Hnl := hide hnl
        have HV0 := hide hb0
        have HMk0 := hide (Hmk.out.below hbl)
        have hlll := hnl.1
        clear hnl hP hll hbl hb0 Hlost Hmk
        go_wp2_with fail
        go_loopw [54] (fun vi wr => ∃ k : Nat, k ≤ ll.length ∧ vi = .int .i64 k ∧ Hid (∃ lin, Marks wr w1.heap.size lin (fun x => (ll.take k).any fun y => y == x) ∧ KeepsCells V0 wr ∧ Below w1.heap.size w1 wr)) (fun vi _ => ll.length - (intOf vi).toNat)
        case atStart => exact ⟨0, Nat.zero_le _, rfl, [], HMk0.out.congr (fun x => by simp), fun _ _ h => h, HV0.out⟩
        case round =>
          obtain ⟨k, hk, rfl, hq⟩ := hrel
          obtain ⟨lin, hmk, hkc, hbw⟩ := hq.out
          by_cases hlk : k < ll.length
          · obtain ⟨ga, off, cap, e, c0⟩ := nis_at (Hnl.out.keeps hkc) hlk
            injection e with e1 e2 e3
            subst e1 e3
            clear e2
            obtain ⟨wu, hrun, hmu, hou, hzu⟩ := run_mapUpdate (P := Try.prog) (t := 28) Try.underlying28 Try.underlying3 hmk.map ll[k] (.int .i64 1)
            have hbu : Below w1.heap.size w1 wu := below_only hbw hou (fun i hi => by simp only [List.mem_singleton] at hi; omega) hbw.size
            have hpl : (getD M ll[k]).plain = false := by
              cases e : (getD M ll[k]).plain with
              | false => rfl
              | true => exact absurd (.plain e) (HG.out ll[k] (List.any_eq_true.2 ⟨ll[k], List.getElem_mem hlk, by simp⟩))
            have hip := isPlain_any b m M ll[k] wu (HBk.out wu hbu)
            rw [hpl] at hip
            have Hmk := hide ((hmk.put hmu).congr (T := fun x => (ll.take (k + 1)).any fun y => y == x) (fun x => by rw [List.take_succ_eq_append_getElem hlk, List.any_append]; simp))
            have Hkc := hide (hkc.trans (KeepsCells.map hmk.map hou))
            have Hbu := hide hbu
            obtain ⟨z, hz⟩ : ∃ z, ll[k] = z := ⟨_, rfl⟩
            rw [hz] at c0 hrun hip Hmk
            have Hip := hide hip
            clear hmk hkc hbw hmu hou hzu hbu hpl hip hz hq
            go_wp2_with fail
            (with_reducible refine Hip.out.mono ?_)
            rintro e V2 ⟨rfl, hV2⟩
            rw [← hV2]
            clear hV2 Hip
            go_wp2
            go_roundw
            case rel => exact ⟨k + 1, by omega, by go_num, _, Hmk.out, Hkc.out, Hbu.out⟩
            case measure => simp [intOf]; omega
          · obtain rfl : k = ll.length := by omega
            rw [List.take_length] at hmk
            obtain ⟨w2, rfl⟩ : ∃ w2 : World, w2 = wr := ⟨_, rfl⟩
            have hb2 : Below w2.heap.size w2 (w2.alloc (.map #[] 0)) := ((Only.refl [] w2).alloc _).below
            have Hmk := hide hmk
            have Hb2 := hide hbw
            have hgt : w1.heap.size < w2.heap.size := hmk.map.lt
            have hw12 : w1.heap.size ≤ w2.heap.size := hbw.size
            have Hfa := hide (facts_any b m M (w2.alloc (.map #[] 0)) (HBk.out _ (hbw.trans (hb2.mono hw12))))
            have Hm2 := hide (Marks.new w2)
            have Hb2a := hide hb2
            clear hq hmk hkc hbw hb2
            go_wp2_with fail
            (with_reducible refine Hfa.out.mono ?_)
            rintro e V3 ⟨v, rfl, hrow, hbf⟩
            obtain ⟨ia, ic, rfl⟩ := row_form hrow
            have hidl : (idsS M).length ≤ 1000 := by unfold idsS; rw [(rise_perm _).length_eq]; have := HM.out.len; simp; omega
            have hb3 : Below w2.heap.size w2 V3 := Hb2a.out.trans (hbf.mono (by simp))
            have Hids := hide (NIs.of_row (l := idsS M) (by omega) hrow)
            have Hb3 := hide hb3
            have Hm3 := hide (Hm2.out.below hbf)
            obtain ⟨ids, hids⟩ : ∃ ids, idsS M = ids := ⟨_, rfl⟩
            have Hidse := hide hids
            rw [hids] at Hids hidl HH
            rw [hids]
            clear hrow hbf hb3 Hfa Hm2 Hb2a hids
            go_wp2_with fail
            go_loopw [68] (fun vi wr => ∃ k : Nat, k ≤ ids.length ∧ vi = .int .i64 k ∧ Hid (∃ lit, Marks wr w2.heap.size lit (fun x => (ids.take k).any fun y => y == x) ∧ KeepsCells V3 wr ∧ Only [w2.heap.size] V3 wr)) (fun vi _ => ids.length - (intOf vi).toNat)
            case atStart => exact ⟨0, Nat.zero_le _, rfl, [], Hm3.out.congr (fun x => by simp), fun _ _ h => h, Only.refl _ _⟩
            case round =>
              obtain ⟨k, hk, rfl, hq⟩ := hrel
              obtain ⟨lit, hmt, hkc, hot⟩ := hq.out
              by_cases hlk : k < ids.length
              · obtain ⟨ga, off, cap, e, c0⟩ := nis_at (Hids.out.keeps hkc) hlk
                injection e with e1 e2 e3
                subst e1 e3
                clear e2
                obtain ⟨wu, hrun, hmu, hou, hzu⟩ := run_mapUpdate (P := Try.prog) (t := 28) Try.underlying28 Try.underlying3 hmt.map ids[k] (.int .i64 1)
                have Hmt := hide ((hmt.put hmu).congr (T := fun x => (ids.take (k + 1)).any fun y => y == x) (fun x => by rw [List.take_succ_eq_append_getElem hlk, List.any_append]; simp))
                have Hkc := hide (hkc.trans (KeepsCells.map hmt.map hou))
                have Hot := hide (hot.trans hou)
                obtain ⟨z, hz⟩ : ∃ z, ids[k] = z := ⟨_, rfl⟩
                rw [hz] at c0 hrun Hmt
                clear hmt hkc hot hmu hou hzu hz hq
                go_wp2
                go_roundw
                case rel => exact ⟨k + 1, by omega, by go_num, _, Hmt.out, Hkc.out, Hot.out⟩
                case measure => simp [intOf]; omega
              · obtain rfl : k = ids.length := by omega
                rw [List.take_length] at hmt
                obtain ⟨w4, rfl⟩ : ∃ w4 : World, w4 = wr := ⟨_, rfl⟩
                have hb4 : Below w2.heap.size w2 w4 := below_only Hb3.out hot (fun i hi => by simp only [List.mem_singleton] at hi; omega) Hb3.out.size
                have hb4' : Below w1.heap.size w1 w4 := Hb2.out.trans (hb4.mono hw12)
                have Hfa := hide (facts_any b m M w4 (HBk.out _ hb4'))
                have Hb4 := hide hb4'
                have Hmg4 := hide (Hmk.out.below hb4)
                have Hmt4 := hide hmt
                clear hq hmt hkc hot hb4 hb4'
                go_wp2_with fail
                (with_reducible refine Hfa.out.mono ?_)
                rintro e V5 ⟨v, rfl, hrow, hbf⟩
                rw [Hidse.out] at hrow
                obtain ⟨ja, jc, rfl⟩ := row_form hrow
                have Hids5 := hide (NIs.of_row (l := ids) (by omega) hrow)
                have Hb5 := hide (Hb4.out.trans (hbf.mono Hb4.out.size))
                have Hmg := hide (Hmg4.out.below hbf)
                have Hmt := hide (Hmt4.out.below hbf)
                clear hrow hbf Hfa Hmg4 Hmt4 Hb4 Hmk Hb2 Hids Hb3 Hm3 Hnl HV0 HMk0
                obtain ⟨H, hHe⟩ : ∃ H : Int → Bool, heldB (fun x => ids.any fun y => y == x) (fun x => ll.any fun y => y == x) = H := ⟨_, rfl⟩
                rw [hHe] at HH
                have HHe := hide hHe
                clear hHe
                go_wp2_with fail
                go_loopw [78] (fun vi wr => ∃ k : Nat, k ≤ ids.length ∧ vi = .int .i64 k ∧ Hid (Below V5.heap.size V5 wr)) (fun vi _ => ids.length - (intOf vi).toNat)
                case atStart => exact ⟨0, Nat.zero_le _, rfl, Below.refl _ _⟩
                case round =>
                  obtain ⟨k, hk, rfl, hq⟩ := hrel
                  by_cases hlk : k < ids.length
                  · have hbw5 : Below w1.heap.size w1 wr := Hb5.out.trans (hq.out.mono Hb5.out.size)
                    obtain ⟨ga, off, cap, e, c0⟩ := nis_at (Hids5.out.below hq.out) hlk
                    injection e with e1 e2 e3
                    subst e1 e3
                    clear e2
                    have hzm : ids[k] ∈ ids := List.getElem_mem hlk
                    have hip := isPlain_any b m M ids[k] wr (HBk.out wr hbw5)
                    have hof := of_any b m M ids[k] wr (HBk.out wr hbw5) (by have := HM.out.js ids[k]; omega)
                    have hgl := fun V (hV : Below wr.heap.size wr V) => run_lookup1 (P := Try.prog) (t := 28) Try.underlying28 Try.underlying3 ((Hmg.out.below (hq.out.trans (hV.mono hq.out.size))).map) (int_zero _) ids[k]
                    simp only [Hmg.out.look] at hgl
                    have hgone : (ll.any fun y => y == ids[k]) = !H ids[k] := by
                      rw [← HHe.out]
                      unfold heldB
                      have hth : (ids.any fun y => y == ids[k]) = true := List.any_eq_true.2 ⟨_, hzm, by simp⟩
                      simp only [hth]
                      simp
                    rw [hgone] at hgl
                    have hhi := fun (L : List Jc) (hL : (L.map Jc.co).Perm ((getD M ids[k]).js.map Jc.co)) => holds_iff HH.out hL
                    obtain ⟨z, hz⟩ : ∃ z, ids[k] = z := ⟨_, rfl⟩
                    rw [hz] at c0 hip hof hgl
                    simp only [hz] at hhi
                    obtain ⟨pz, hpz⟩ : ∃ pz, (getD M z).plain = pz := ⟨_, rfl⟩
                    rw [hpz] at hip
                    simp only [hpz] at hhi
                    have Hip := hide hip
                    have Hof := hide hof
                    have Hgl := hide hgl
                    have Hhi := hide hhi
                    have HbR := hide hq.out
                    clear hbw5 hzm hip hof hgl hgone hhi hz hpz hq
                    go_wp2_with fail
                    (with_reducible refine Hip.out.mono ?_)
                    rintro e V6 ⟨rfl, hV6⟩
                    rw [← hV6]
                    clear hV6 Hip
                    go_wp2_with fail
                    (with_reducible refine Hof.out.mono ?_)
                    rintro e Vo ⟨v, L, rfl, hoL, hLp, _, hbo⟩
                    obtain ⟨oa, oc, rfl⟩ := hoL.form
                    have hLl : L.length ≤ 1000 := by
                      have h1 := hLp.length_eq
                      rw [List.length_map, List.length_map] at h1
                      have := HM.out.js z
                      omega
                    have HL := hide (hoL.js (by omega))
                    have HoL := hide hoL
                    have Hall := hide (Hhi.out L hLp)
                    have Hbo := hide hbo
                    clear hoL hLp hbo Hof Hhi c0
                    go_wp2_with fail
                    go_loopw [14, 89] (fun vh vi wq => ∃ q : Nat, q ≤ L.length ∧ vi = .int .i64 q ∧ vh = .bool (pz || (L.take q).any fun j => j.tup.all H) ∧ Hid (Below Vo.heap.size Vo wq)) (fun _ vi _ => L.length - (intOf vi).toNat)
                    case atStart => exact ⟨0, Nat.zero_le _, rfl, by simp, Below.refl _ _⟩
                    case round =>
                      obtain ⟨q, hq, rfl, rfl, hbq⟩ := hrel
                      by_cases hlq : q < L.length
                      · have hLq := HL.out.keeps (KeepsCells.below hbq.out)
                        obtain ⟨gb, off2, cap2, xa, xc, e, hx, d0, d1⟩ := hLq.at hlq
                        injection e with e1 e2 e3
                        subst e1 e3
                        clear e2
                        have hn := hLq.tups _ (List.getElem_mem hlq)
                        have htk : ((L.take (q + 1)).any fun j => j.tup.all H) = ((L.take q).any fun j => j.tup.all H || L[q].tup.all H) ∨ True := .inr trivial
                        have htk2 : ((L.take (q + 1)).any fun j => j.tup.all H) = (((L.take q).any fun j => j.tup.all H) || L[q].tup.all H) := by
                          rw [List.take_succ_eq_append_getElem hlq, List.any_append]
                          simp
                        obtain ⟨Z, hZ⟩ : ∃ Z, L[q] = Z := ⟨_, rfl⟩
                        rw [hZ] at hx d0 d1 hn htk2
                        obtain ⟨zr, zt, zx⟩ := Z
                        simp only at hx d0 d1 hn htk2
                        subst hx
                        obtain ⟨W, hW⟩ : ∃ W, wr.alloc (Obj.cells #[.int .i64 zr, .slice xa zt.length xc] 53) = W := ⟨_, rfl⟩
                        have hbW : Below wr.heap.size wr W := by rw [← hW]; exact ((Only.refl [] wr).alloc _).below
                        have hbx := heap_alloc0 wr (Obj.cells #[.int .i64 zr, .slice xa zt.length xc] 53)
                        rw [hW] at hbx
                        obtain ⟨f0, f1, _⟩ := cells2e hbx
                        have HW := hide hW
                        have HbW := hide (hbq.out.trans (hbW.mono hbq.out.size))
                        have Hn := hide (hn.below hbW)
                        have Htk2 := hide htk2
                        have HbV := hide (HbR.out.trans (Hbo.out.mono HbR.out.size))
                        obtain ⟨Bq, hBq⟩ : ∃ Bq, (pz || (L.take q).any fun j => j.tup.all H) = Bq := ⟨_, rfl⟩
                        have HBq := hide hBq
                        have hznl := hn.1
                        rw [hBq]
                        clear hLq hn htk htk2 hZ hW hbW hbx hBq
                        go_upto_region 36 with fail
                        rw [HW.out]
                        go_wp2_with fail
                        go_loopw [17, 96] (fun va vi wx => ∃ r : Nat, r ≤ zt.length ∧ vi = .int .i64 r ∧ va = .bool ((zt.take r).all H) ∧ Hid (Below W.heap.size W wx)) (fun _ vi _ => zt.length - (intOf vi).toNat)
                        case atStart => exact ⟨0, Nat.zero_le _, rfl, by simp, Below.refl _ _⟩
                        case round =>
                          obtain ⟨r, hr, rfl, rfl, hbx⟩ := hrel
                          by_cases hlr : r < zt.length
                          · obtain ⟨gc2, off3, cap3, e, c0⟩ := nis_at (Hn.out.below hbx.out) hlr
                            injection e with e1 e2 e3
                            subst e1 e3
                            clear e2
                            have hb5x : Below V5.heap.size V5 wr := by
                              have h1 := HbV.out.trans (HbW.out.mono HbV.out.size)
                              exact h1.trans (hbx.out.mono h1.size)
                            have hrt := run_lookup1 (P := Try.prog) (t := 28) Try.underlying28 Try.underlying3 ((Hmt.out.below hb5x).map) (int_zero _) zt[r]
                            have hrg := run_lookup1 (P := Try.prog) (t := 28) Try.underlying28 Try.underlying3 ((Hmg.out.below hb5x).map) (int_zero _) zt[r]
                            rw [Hmt.out.look] at hrt
                            rw [Hmg.out.look] at hrg
                            have hst : (zt.take (r + 1)).all H = ((zt.take r).all H && ((ids.any fun y => y == zt[r]) && !(ll.any fun y => y == zt[r]))) := by
                              rw [List.take_succ_eq_append_getElem hlr, List.all_append]
                              simp only [List.all_cons, List.all_nil, Bool.and_true]
                              rw [← HHe.out]
                              rfl
                            obtain ⟨y, hy⟩ : ∃ y, zt[r] = y := ⟨_, rfl⟩
                            rw [hy] at c0 hrt hrg hst
                            obtain ⟨T, hT⟩ : ∃ T, (ids.any fun x => x == y) = T := ⟨_, rfl⟩
                            obtain ⟨G, hGe⟩ : ∃ G, (ll.any fun x => x == y) = G := ⟨_, rfl⟩
                            obtain ⟨A, hA⟩ : ∃ A, (zt.take r).all H = A := ⟨_, rfl⟩
                            rw [hT] at hrt hst
                            rw [hGe] at hrg hst
                            rw [hA] at hst
                            rw [hA]
                            have Hst := hide hst
                            have Hbx := hide hbx.out
                            clear hst hT hGe hA hy hb5x hbx
                            cases A
                            · clear hrt hrg
                              go_wp2
                              go_roundw
                              case rel => exact ⟨r + 1, by omega, by go_num, by rw [Hst.out]; rfl, Hbx.out⟩
                              case measure => simp [intOf]; omega
                            · cases T
                              · simp only [Bool.false_eq_true, if_false] at hrt
                                clear hrg
                                go_wp2
                                go_roundw
                                case rel => exact ⟨r + 1, by omega, by go_num, by rw [Hst.out]; rfl, Hbx.out⟩
                                case measure => simp [intOf]; omega
                              · simp only [if_true] at hrt
                                cases G
                                · simp only [Bool.false_eq_true, if_false] at hrg
                                  go_wp2
                                  go_roundw
                                  case rel => exact ⟨r + 1, by omega, by go_num, by rw [Hst.out]; rfl, Hbx.out⟩
                                  case measure => simp [intOf]; omega
                                · simp only [if_true] at hrg
                                  go_wp2
                                  go_roundw
                                  case rel => exact ⟨r + 1, by omega, by go_num, by rw [Hst.out]; rfl, Hbx.out⟩
                                  case measure => simp [intOf]; omega
                          · obtain rfl : r = zt.length := by omega
                            rw [List.take_length]
                            have Hbx := hide (HbW.out.trans (hbx.out.mono HbW.out.size))
                            obtain ⟨C, hC⟩ : ∃ C, zt.all H = C := ⟨_, rfl⟩
                            rw [hC]
                            have Hnew : Hid ((pz || (L.take (q + 1)).any fun j => j.tup.all H) = (Bq || C)) := hide (by rw [Htk2.out, ← HBq.out, hC, Bool.or_assoc])
                            clear hC hbx
                            cases Bq <;> cases C
                            all_goals
                              go_wp2
                              go_roundw
                              case rel => exact ⟨q + 1, by omega, by go_num, by rw [Hnew.out]; rfl, Hbx.out⟩
                              case measure => simp [intOf]; omega
                      · obtain rfl : q = L.length := by omega
                        rw [List.take_length, Hall.out]
                        have hbk := Hbo.out.trans (hbq.out.mono Hbo.out.size)
                        have hgl := Hgl.out wr hbk
                        have HbF := hide (HbR.out.trans (hbk.mono HbR.out.size))
                        obtain ⟨hz, hhz⟩ : ∃ hz, H z = hz := ⟨_, rfl⟩
                        rw [hhz] at hgl ⊢
                        clear hbk hbq hhz
                        cases hz
                        · simp only [Bool.not_false, if_true] at hgl
                          go_wp2
                          go_roundw
                          case rel => exact ⟨k + 1, by omega, by go_num, HbF.out⟩
                          case measure => simp [intOf]; omega
                        · simp only [Bool.not_true, Bool.false_eq_true, if_false] at hgl
                          go_wp2
                          go_roundw
                          case rel => exact ⟨k + 1, by omega, by go_num, HbF.out⟩
                          case measure => simp [intOf]; omega
                  · obtain ⟨w5, rfl⟩ : ∃ w5 : World, w5 = wr := ⟨_, rfl⟩
                    obtain rfl : k = ids.length := by omega
                    have hb15 : Below w1.heap.size w1 w5 := Hb5.out.trans (hq.out.mono Hb5.out.size)
                    have hmg5 := Hmg.out.below hq.out
                    obtain ⟨w6, hrun, hit, ho6, hsz6⟩ := run_range (P := Try.prog) (t := 28) Try.underlying28 hmg5.map
                    have hb16 : Below w1.heap.size w1 w6 := hb15.trans (ho6.below.mono hb15.size)
                    have hmlt5 : m < w5.heap.size := Nat.lt_of_lt_of_le hmlt hb15.size
                    have hg5 : w1.heap.size < w5.heap.size := hmg5.map.lt
                    have hle5 : w1.heap.size ≤ w5.heap.size := hb15.size
                    have Hst : Hid (∃ left M', IIter w6 w1.heap.size w5.heap.size lin left ∧ BookIs w6 b m M' ∧ Dropped M M' (fun x => inSet lin x && !inSet left x) ∧ Below w.heap.size w w6) := hide ⟨lin, M, hit, HBk.out w6 hb16, (Dropped.refl M).congr (fun x => by simp), Hbw.out.trans (hb16.mono Hbw.out.size)⟩
                    have Hset := hide hmg5.set
                    have Hheld : Hid (∀ x ∈ M.map Sp.id, (ll.any fun y => y == x) = false → Held M x) := hide fun x hx hg => by
                      refine (HH.out x).1 ?_
                      rw [← HHe.out]
                      unfold heldB
                      simp only
                      rw [hg, ← Hidse.out, List.any_eq_true.2 ⟨x, mem_ids.2 hx, by simp⟩]
                      rfl
                    have Hne : Hid (m ≠ w1.heap.size) := hide (by omega)
                    have Hw1 : Hid (w.heap.size ≤ w1.heap.size) := hide Hbw.out.size
                    clear hq hmg5 hb15 hit ho6 hsz6 hb16 HM Hmg Hmt Hb5 HH HHe HBk Hids5 Hidse
                    go_wp2
                    go_loopw [20] (fun _ wr => Hid (∃ left M', IIter wr w1.heap.size w5.heap.size lin left ∧ BookIs wr b m M' ∧ Dropped M M' (fun x => inSet lin x && !inSet left x) ∧ Below w.heap.size w wr)) (fun _ wr => wr.rangeLeft w1.heap.size w5.heap.size)
                    case atStart => exact Hst
                    case round =>
                      obtain ⟨left, M', hit, hB, hdr, hbw⟩ := hrel.out
                      rcases run_next (P := Try.prog) hit with ⟨rfl, hrun⟩ | ⟨p, hp, w7, hrun, hpl, hit1, hlt, ho1, hsz1, hent⟩
                      · have hdr2 := hdr.congr (K := fun x => ll.any fun y => y == x) (fun x => by rw [Hset.out]; simp [inSet, look])
                        have Hlost := hide (lost_any b m M' wr hB)
                        have Hdr := hide hdr2
                        have Hbw2 := hide hbw
                        clear hrel hit hB hdr hdr2 hbw
                        go_wp2_with fail
                        (with_reducible refine Hlost.out.mono ?_)
                        rintro e V8 ⟨v, lx, rfl, hnx, ⟨P, hP, hlx⟩, hbl⟩
                        obtain rfl : lx = [] := none_lost Hdr.out HG.out Hheld.out hP hlx
                        obtain ⟨xa, xc, rfl⟩ := hnx.form
                        have Hb8 := hide (Hbw2.out.trans (hbl.mono Hbw2.out.size))
                        clear hnx hP hlx hbl Hlost Hdr
                        go_wp2_with (go_at_call 25; refine (known29_walk _).mono ?_; rintro e w' ⟨rfl, hk⟩)
                        go_ret
                        exact ⟨rfl, Hb8.out.trans (hk.mono Hb8.out.size)⟩
                      · have hB7 : BookIs w7 b m M' := hB.iter hit ho1 (by omega)
                        have hbw7 : Below w.heap.size w w7 := below_only hbw ho1 (fun i hi => by simp only [List.mem_singleton] at hi; have := Hw1.out; omega) hbw.size
                        have Hd := hide (drop_any b m M' p.1 w7 hB7)
                        have hps : inSet lin p.1 = true := by rw [inSet_any]; exact List.any_eq_true.2 ⟨p, hpl, by simp⟩
                        have Hdr := hide ((hdr.step p.1).congr (K := fun x => inSet lin x && !inSet (Go.Proofs.Ytmcajoccfbebiaa.drop left p.1) x) (fun x => by
                          rw [inSet_drop]
                          by_cases hx : p.1 = x
                          · subst hx
                            simp [hps]
                          · have : (p.1 == x) = false := by simpa using hx
                            simp [this]))
                        have Hleft := hide hit.left_eq
                        have Hit1 := hide hit1
                        have Hlt := hide hlt
                        have Hbw7 := hide hbw7
                        obtain ⟨z, hz⟩ : ∃ z, p.1 = z := ⟨_, rfl⟩
                        rw [hz] at hrun hent Hd
                        have Hz := hide hz
                        clear hrel hit hB hdr hbw hit1 hlt ho1 hsz1 hB7 hbw7 hps hpl hp hz
                        go_wp2_with fail
                        (with_reducible refine Hd.out.mono ?_)
                        rintro e w8 ⟨rfl, hB8, ho8⟩
                        have hit8 := Hit1.out.only ho8 (by simpa using fun e => Hne.out e.symm) (by simp; omega)
                        have Hfin : Hid (∃ left M', IIter w8 w1.heap.size w5.heap.size lin left ∧ BookIs w8 b m M' ∧ Dropped M M' (fun x => inSet lin x && !inSet left x) ∧ Below w.heap.size w w8) := hide ⟨_, _, hit8, hB8, by rw [← Hz.out]; exact Hdr.out, below_only Hbw7.out ho8 (fun i hi => by simp only [List.mem_singleton] at hi; omega) Hbw7.out.size⟩
                        have Hms := hide hit8.left_eq
                        clear hB8 ho8 hit8 Hd
                        go_wp2
                        go_roundw
                        case rel => exact Hfin
                        case measure =>
                          rw [Hleft.out, Hms.out]
                          exact Hlt.out
end Go.Proofs.Ytmcajoccfbebiaa
