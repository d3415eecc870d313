/- The walk of witanlaw27.AgendaOnce. -/
import Derived.Test.YtelgajgghgknnaaKnown27
import Derived.Test.YtelgajgghgknnaaArgsL
import Derived.Test.YtelgajgghgknnaaRSort
namespace Go.Proofs.Ytelgajgghgknnaa
open Go Go.RowKit Go.MapKept Go.Sort

theorem res_only {B : Nat} {w w' : World} {v : Value} {l : List Ac} {S : List Nat} (h : ResIs B w v l) (ho : Only S w w') (hS : ∀ k ∈ S, k < B) : ActsIs w' v l := by
  refine ⟨h.acts.len, ?_, fun a ha => NIs.of_row (h.acts.tups a ha).1 (owns_only (h.tups a ha) ho fun k hk hm => by have := (h.tups a ha).lt k hk; have := hS k hm; omega)⟩
  rcases h.acts.row with ⟨b, off, cap, rfl, hi⟩ | q
  · refine .inl ⟨b, off, cap, rfl, fun i hil => ?_⟩
    obtain ⟨h0, h1, h2⟩ := hi i hil
    have hb : b ∉ S := fun hm => by
      have h3 := h.fresh _ _ _ rfl (by omega)
      have := hS b hm
      simp only at h3
      omega
    exact ⟨(ho.cell (p := ⟨b, off + i * 3, none⟩) (lt_of_cell h0) hb).trans h0, (ho.cell (p := ⟨b, off + i * 3 + 1, none⟩) (lt_of_cell h1) hb).trans h1, (ho.cell (p := ⟨b, off + i * 3 + 2, none⟩) (lt_of_cell h2) hb).trans h2⟩
  · exact .inr q

theorem AgOnly.below {b B : Nat} {v : Value} {w w1 w2 : World} (h : Below B w w1) (k : AgOnly b v w1 w2) (hb : B ≤ b) (hv : ∀ i, v.ownBlock = some i → B ≤ i) (hB : B ≤ w1.heap.size) : Below B w w2 :=
  below_only h k (fun i hi => by
    simp only [List.mem_cons, Option.mem_toList] at hi
    rcases hi with rfl | hi
    · exact hb
    · exact hv i hi) hB

theorem drop_co {R : List Ac} {i : Nat} (h : i < R.length) : (R.map Ac.co).drop i = R[i].co :: (R.map Ac.co).drop (i + 1) := by
  rw [List.drop_eq_getElem_cons (by simpa using h), List.getElem_map]

theorem once_o2 {b : Nat} {v : Value} {W0 W1 W1a V : World} (hW : W1a = W1) (h : AgOnly b v W0 W1) (hb : Below W1a.heap.size W1a V) : AgOnly b v W0 V := by
  subst hW
  exact h.trans (Only.of_below hb _)
theorem once_a2 {B b : Nat} {v : Value} {s : Int} {l : List En} {W1 W1a V : World} (hW : W1a = W1) (h : AgIs B W1 b s v l) (hb : Below W1a.heap.size W1a V) : AgIs B V b s v l := by
  subst hW
  exact h.below hb

set_option maxRecDepth 100000 in
set_option maxHeartbeats 4000000 in
theorem once_walk (s : Int) (v : Value) (l : List ActD) (w : World) (h : ActsD w v l) :
    Calls Try.prog 4 #[.int .u8 s, v] w fun e w' => e = .returned (.bool true) ∧ Below w.heap.size w w' := by
  have Hg := hide (greatD_any v l 20 (by omega) w h)
  obtain ⟨va, vc, rfl⟩ := h.form
  cases hgr : greatD l 20 with
  | true =>
    rw [hgr] at Hg
    clear hgr
    go_enter Try.func4, Try.ntmps4
    go_wp2_with fail
    refine Hg.out.mono ?_
    rintro e w' ⟨rfl, rfl⟩
    go_wp2_with (go_at_call 9; refine (known27_walk _).mono ?_; rintro e w' ⟨rfl, hk⟩)
    go_ret
    exact ⟨rfl, hk⟩
  | false =>
    rw [hgr] at Hg
    obtain ⟨hl60, hn20⟩ := greatD_false hgr
    clear hgr
    have hL := h.acts (by omega) (fun g hg => Nat.le_trans (hn20 g hg) (by omega))
    obtain ⟨L, hLe⟩ : ∃ L, l.map ActD.ac = L := ⟨_, rfl⟩
    rw [hLe] at hL
    have hlen : l.length = L.length := by rw [← hLe]; simp
    rw [hlen] at hL hl60 Hg ⊢
    have HL := hide hL
    have hN : L.length ≤ 20 := by omega
    have Hnew := hide (new_ag s w)
    clear h hn20 hLe hL hl60 hlen
    go_enter Try.func4, Try.ntmps4
    go_wp2_with fail
    refine Hg.out.mono ?_
    rintro e w' ⟨rfl, hw⟩
    rw [hw]
    clear hw
    go_wp2_with fail
    refine Hnew.out.mono ?_
    rintro e w1 ⟨rfl, hA1, hb1⟩
    have hltb := lt_of_heap hA1.blk
    have hch := change_any w.heap.size w.heap.size s (.slice none 0 0) [] (.slice none 0 0) (.slice va L.length vc) [] L w1 hA1 hb1.size (fun V _ => acts_none V) (fun V hV => HL.out.below (AgOnly.below hb1 hV (Nat.le_refl _) (by simp [Value.ownBlock]) hb1.size)) (by simp; omega)
    have Hch := hide hch
    have HB1 := hide hb1
    clear hA1 hb1 hch Hnew Hg
    go_wp2_with fail
    refine Hch.out.mono ?_
    rintro e w2 ⟨rfl, v2, l2, hA2, hl2, hO2, hS2⟩
    have hu2 : Uniq l2 := hl2.uniq List.Pairwise.nil
    have hf2 := hl2.fresh (by simp)
    have HB2 := hide (AgOnly.below HB1.out hO2 (Nat.le_refl _) (by simp [Value.ownBlock]) HB1.out.size)
    have hlt2 : w.heap.size < w2.heap.size := Nat.lt_of_lt_of_le hltb hO2.size
    have hrow2 := row_own hA2.ens.own
    have hrowlt := hA2.ens.own.lt
    have Hli := hide (list_any w.heap.size w.heap.size s v2 l2 w2 hA2)
    have HA2 := hide hA2
    have Hu2 := hide hu2
    have Hf2 := hide hf2
    have Hrow2 := hide hrow2
    have Hrowlt := hide hrowlt
    clear hA2 hl2 hO2 hS2 hu2 hf2 hrow2 hrowlt Hch
    go_wp2_with fail
    refine Hli.out.mono ?_
    rintro e w3 ⟨vR, R, rfl, hR, hcR, hb3⟩
    obtain ⟨ra, rc, rfl⟩ := hR.acts.form
    have hcapR : R.length ≤ rc := hR.cap
    have hRl : R.length ≤ 1000000 := hR.acts.len
    have HR : Hid (∀ V, AgOnly w.heap.size v2 w3 V → ActsIs V (.slice ra R.length rc) R) := fun V hV => res_only hR hV fun k hk => by
      simp only [List.mem_cons, Option.mem_toList] at hk
      rcases hk with rfl | hk
      · exact hlt2
      · exact (Hrowlt.out k hk).2
    have hRlen : R.length = l2.length := by
      have h1 : R.map Ac.co = sortC s (open' l2) := hcR
      rw [open_fresh Hf2.out] at h1
      have := congrArg List.length h1
      rw [sortC_length] at this
      simpa using this
    have HcR : Hid (R.map Ac.co = sortC s (open' l2)) := hide hcR
    have HA3 := hide (HA2.out.below hb3)
    have HB3 := hide (HB2.out.trans (hb3.mono (by omega)))
    have hz3 := hb3.size
    have HRlen := hide hRlen
    clear hR hcR hb3 Hli HA2 hRlen
    go_wp2_with fail
    go_loopw [24] (fun vi wr => ∃ i : Nat, i ≤ R.length ∧ vi = .int .i64 i ∧ Hid (∃ vk lk, AgIs w.heap.size wr w.heap.size s vk lk ∧ Uniq lk ∧ sortC s (open' lk) = (R.map Ac.co).drop i ∧ lk.length = l2.length ∧ AgOnly w.heap.size v2 w3 wr ∧ Stays v2 vk w3)) (fun i _ => R.length - (intOf i).toNat)
    case atStart => exact ⟨0, Nat.zero_le _, rfl, v2, l2, HA3.out, Hu2.out, by rw [HcR.out]; rfl, rfl, Only.refl _ _, Stays.refl _ _⟩
    case round =>
      obtain ⟨i, hiR, rfl, hq⟩ := hrel
      obtain ⟨vk, lk, hA, hu, hso, hlk, hO, hS⟩ := hq.out
      by_cases hlt : i < R.length
      · have hRa := HR.out wr hO
        obtain ⟨gb, off, cap, _, _, e, _, _, _, _⟩ := hRa.at hlt
        injection e with e1 e2 e3
        subst e1 e3
        clear e2
        have hdc := drop_co hlt
        have hnx := next_any w.heap.size w.heap.size s vk lk wr hA
        rw [show ((lk.filter fun e => !e.fired).map fun e => e.ac.co) = open' lk from rfl, hso, hdc] at hnx
        have Hnx := hide hnx
        have HA := hide hA
        have Hu := hide hu
        have Hso := hide (hso.trans hdc)
        have HO := hide hO
        have HS := hide hS
        have Hlk := hide hlk
        clear hq hA hu hso hlk hO hS hRa hdc hnx
        go_wp2_with fail
        refine Hnx.out.mono ?_
        rintro e V1 ⟨y, q, rfl, hy, hbV1⟩
        obtain ⟨rfl, a, rfl, hac, hal, hown⟩ := hy
        obtain ⟨ru, tu, su, ax⟩ := a
        simp only at hal hown
        obtain ⟨xa, xc, rfl⟩ := row_form hown
        unfold Ac.val
        simp only
        obtain ⟨W0, hW0⟩ : ∃ W0, V1.alloc (Obj.cells #[.int .i64 ru, .slice xa tu.length xc, .int .i64 su] 27) = W0 := ⟨_, rfl⟩
        have ob : Below V1.heap.size V1 W0 := by rw [← hW0]; exact ((Only.refl [] V1).alloc _).below
        have hbox := heap_alloc0 V1 (Obj.cells #[.int .i64 ru, .slice xa tu.length xc, .int .i64 su] 27)
        have hzW : W0.heap.size = V1.heap.size + 1 := by rw [← hW0]; simp
        rw [hW0] at hbox
        obtain ⟨d0, d1, d2, _⟩ := cells3a hbox
        have hlb : w.heap.size < wr.heap.size := lt_of_heap HA.out.blk
        have hz1 : wr.heap.size ≤ V1.heap.size := hbV1.size
        have hn : ∀ k ∈ w.heap.size :: vk.ownBlock.toList, k < wr.heap.size := fun k hk => by
          simp only [List.mem_cons, Option.mem_toList] at hk
          rcases hk with rfl | hk
          · exact hlb
          · exact (HA.out.ens.own.lt k hk).2
        have hX : ∀ V, AgOnly w.heap.size vk W0 V → NIs V (.slice xa tu.length xc) tu ∧ V.cell? ⟨V1.heap.size, 0, none⟩ = some (.int .i64 ru) ∧ V.cell? ⟨V1.heap.size, 1, none⟩ = some (.slice xa tu.length xc) ∧ V.cell? ⟨V1.heap.size, 2, none⟩ = some (.int .i64 su) := fun V hV => by
          have hz : V1.heap.size < W0.heap.size := by omega
          have hm : V1.heap.size ∉ w.heap.size :: vk.ownBlock.toList := fun hm => by have := hn _ hm; omega
          exact ⟨NIs.of_row hal (owns_only (owns_below hown ob) hV (fun k hk hm => by have := (hown.lt k hk).1; have := hn k hm; omega)), (hV.cell (p := ⟨V1.heap.size, 0, none⟩) hz hm).trans d0, (hV.cell (p := ⟨V1.heap.size, 1, none⟩) hz hm).trans d1, (hV.cell (p := ⟨V1.heap.size, 2, none⟩) hz hm).trans d2⟩
        obtain ⟨X, hXd⟩ : ∃ X : Ac, (⟨ru, tu, su, .slice xa tu.length xc⟩ : Ac) = X := ⟨_, rfl⟩
        have hXv : X.val = .agg #[.int .i64 ru, .slice xa tu.length xc, .int .i64 su] := by rw [← hXd]; rfl
        have hXn : ∀ V, AgOnly w.heap.size vk W0 V → NIs V X.x X.tup := fun V hV => by rw [← hXd]; exact (hX V hV).1
        rw [hXd] at hac
        have hmem : X.co ∈ open' lk := by rw [← sortC_mem (s := s), Hso.out, hac]; simp
        obtain ⟨o1, o2, o3, o4⟩ := open_has Hu.out hmem
        have o5 : hasE (fireAt lk X) X = true := by rw [has_acs (fireAt_acs lk X)]; exact o1
        have hso1 : sortC s (open' (fireAt lk X)) = (R.map Ac.co).drop (i + 1) := sortC_tail Hso.out (by rw [← hac]; exact o4)
        have hlen1 : (open' (fireAt lk X)).length = R.length - i - 1 := by
          have := congrArg List.length hso1
          rw [sortC_length] at this
          rw [this]; simp; omega
        have hl1 : (fireAt lk X).length = l2.length := by have := congrArg List.length (fireAt_acs lk X); simp at this; rw [this]; exact Hlk.out
        have hA0 : AgIs w.heap.size W0 w.heap.size s vk lk := (HA.out.below hbV1).below ob
        have cFd : ∀ (k : List En) (p : Bool), firedE k X = p → ∀ V, AgIs w.heap.size V w.heap.size s vk k → AgOnly w.heap.size vk W0 V → Calls Try.prog 16 #[.pointer (some ⟨w.heap.size, 0, none⟩), .agg #[.int .i64 ru, .slice xa tu.length xc, .int .i64 su]] V fun r w' => r = .returned (.bool p) ∧ AgIs w.heap.size w' w.heap.size s vk k ∧ AgOnly w.heap.size vk W0 w' := fun k p hp V h1 h2 => by
          have := fired_any w.heap.size w.heap.size s vk k X V h1 (hXn V h2)
          rw [hp, hXv] at this
          exact this.mono fun r w' ⟨h3, h4⟩ => ⟨h3, h1.below h4, h2.trans (Only.of_below h4 _)⟩
        have cFr : ∀ (k k' : List En) (p : Bool), (hasE k X && !firedE k X) = p → (if p = true then fireAt k X else k) = k' → ∀ V, AgIs w.heap.size V w.heap.size s vk k → AgOnly w.heap.size vk W0 V → Calls Try.prog 14 #[.pointer (some ⟨w.heap.size, 0, none⟩), .agg #[.int .i64 ru, .slice xa tu.length xc, .int .i64 su]] V fun r w' => r = .returned (.bool p) ∧ AgIs w.heap.size w' w.heap.size s vk k' ∧ AgOnly w.heap.size vk W0 w' := fun k k' p hp hk V h1 h2 => by
          have := fire_any w.heap.size w.heap.size s vk k X V h1 (hXn V h2)
          rw [hp, hk, hXv] at this
          exact this.mono fun r w' ⟨h3, h4, h5⟩ => ⟨h3, h4, h2.trans h5⟩
        have cLi : ∀ V, AgIs w.heap.size V w.heap.size s vk (fireAt lk X) → AgOnly w.heap.size vk W0 V → Calls Try.prog 17 #[.pointer (some ⟨w.heap.size, 0, none⟩)] V fun r w' => ∃ a c, r = .returned (.slice a (R.length - i - 1) c) ∧ AgIs w.heap.size w' w.heap.size s vk (fireAt lk X) ∧ AgOnly w.heap.size vk W0 w' := fun V h1 h2 =>
          (list_any w.heap.size w.heap.size s vk (fireAt lk X) V h1).mono fun r w' ⟨v', l', h3, h4, h5, h6⟩ => by
            obtain ⟨a, c, rfl⟩ := h4.acts.form
            have hl' : l'.length = R.length - i - 1 := by
              have := congrArg List.length h5
              rw [sortC_length] at this
              rw [← hlen1]
              simpa [open'] using this
            rw [hl'] at h3
            exact ⟨a, c, h3, h1.below h6, h2.trans (Only.of_below h6 _)⟩
        obtain ⟨W1, hW1⟩ : ∃ W1, (W0.alloc (Obj.cells #[.int .i64 ru, .slice xa tu.length xc, .int .i64 su] 27)).drew = W1 := ⟨_, rfl⟩
        have ob1 : Below W0.heap.size W0 W1 := by rw [← hW1]; exact (((Only.refl [] W0).alloc _).drew).below
        have hbox1 : W1.heap[W0.heap.size]? = some (Obj.cells #[.int .i64 ru, .slice xa tu.length xc, .int .i64 su] 27) := by rw [← hW1]; exact heap_alloc0 W0 _
        have hO1 : AgOnly w.heap.size vk W0 W1 := Only.of_below ob1 _
        have hOR : AgOnly w.heap.size v2 w3 W1 := HO.out.then HS.out (((Only.of_below hbV1 _).trans (Only.of_below ob _)).trans hO1)
        have hsa : ∀ c, Calls Try.prog 19 #[.slice (some ⟨W0.heap.size, 0, none⟩) 1 1, .slice (some ⟨gb, off + i * 3, none⟩) 1 c] W1 fun r w' => r = .returned (.bool true) ∧ Below W1.heap.size W1 w' := fun c => by
          have h1 : ActsIs W1 (.slice (some ⟨W0.heap.size, 0, none⟩) 1 1) [X] := acts_cells (by rw [← hXd]; exact hbox1) (hXn W1 hO1)
          have := sameAll_any _ _ _ _ W1 h1 ((HR.out W1 hOR).sub' hlt c)
          rw [one_co, decide_eq_true hac] at this
          exact this
        rw [← hW1] at hsa
        have hA1' : AgIs w.heap.size W1 w.heap.size s vk lk := hA0.below ob1
        have HX := hide hX
        have Hsa := hide hsa
        have HFd1 := hide (cFd lk false o2)
        have HFr1 := hide (cFr lk (fireAt lk X) true (by rw [o1, o2]; rfl) rfl)
        have HFr2 := hide (cFr (fireAt lk X) (fireAt lk X) false (by rw [o5, o3]; rfl) rfl)
        have HFd2 := hide (cFd (fireAt lk X) true o3)
        have HLi := hide cLi
        have HA1' := hide hA1'
        have HO1 := hide hO1
        have HW0 := hide hW0
        have HW1 := hide hW1
        have Hso1 := hide hso1
        have Hl1 := hide hl1
        have HO0 := hide ((Only.of_below hbV1 (w.heap.size :: vk.ownBlock.toList)).trans (Only.of_below ob _))
        have Hu1 := hide (uniq_acs (fireAt_acs lk X) Hu.out)
        obtain ⟨l3, hl3⟩ : ∃ l3, fireAt lk X = l3 := ⟨_, rfl⟩
        rw [hl3] at HFr1 HFr2 HFd2 HLi Hso1 Hl1 Hu1
        clear hW0 ob hbox hzW hlb hz1 hn hX hXd hXv hXn hac hmem o1 o2 o3 o4 o5 hso1 hlen1 hl1 hA0 cFd cFr cLi hW1 ob1 hbox1 hO1 hOR hsa hA1' hal hown hbV1 hl3 HA Hu Hso Hnx
        have i1 : IntKind.i64.wrap ((i : Int) + 1) = (i : Int) + 1 := IntWalk.i64_in _ (by omega)
        have i2 : (0 : Int) ≤ (i : Int) + 1 := by omega
        have i3 : ((i : Int) + 1).toNat = i + 1 := by omega
        have i4 : (i : Int) + 1 ≤ (rc : Int) := by omega
        have i5 : (0 : Int) ≤ (i : Int) := by omega
        have i6 : (i : Int) ≤ (i : Int) + 1 := by omega
        have i7 : ¬ rc = i := by omega
        have i8 : IntKind.i64.wrap ((R.length : Int) - (i : Int)) = (R.length : Int) - (i : Int) := IntWalk.i64_in _ (by omega)
        have i9 : IntKind.i64.wrap ((R.length : Int) - (i : Int) - 1) = (R.length : Int) - (i : Int) - 1 := IntWalk.i64_in _ (by omega)
        obtain ⟨nn, hnn⟩ : ∃ nn, R.length - i - 1 = nn := ⟨_, rfl⟩
        rw [hnn] at HLi
        have i10 : ((nn : Int) != (R.length : Int) - (i : Int) - 1) = false := by
          have : (nn : Int) = (R.length : Int) - (i : Int) - 1 := by omega
          rw [this]; simp
        clear hnn
        go_upto_region 10 with fail
        rw [HW0.out]
        go_wp2_with fail
        go_region_held3 (fun V => V.cell? ⟨V1.heap.size, 0, none⟩ = some (.int .i64 ru) ∧ V.cell? ⟨V1.heap.size, 1, none⟩ = some (.slice xa tu.length xc) ∧ V.cell? ⟨V1.heap.size, 2, none⟩ = some (.int .i64 su)) (go_keep)
          (first
            | (go_at_call 19; have hqq := Hsa.out; with_reducible refine Calls.mono (hqq _) ?_; clear hqq; rintro r V2 ⟨rfl, hb2⟩; have O2 := hide (once_o2 HW1.out HO1.out hb2); obtain ⟨x0, x1, x2, x3⟩ := HX.out V2 O2.out; have A2 := hide (once_a2 HW1.out HA1'.out hb2); clear hb2 x0)
            | (go_at_call 16; have hqq := HFd1.out _ A2.out O2.out; with_reducible refine Calls.mono hqq ?_; clear hqq; rintro r V3 ⟨rfl, h1, h2⟩; obtain ⟨y0, y1, y2, y3⟩ := HX.out V3 h2; have A3 := hide h1; have O3 := hide h2; clear h1 h2 y0)
            | (go_at_call 14; have hqq := HFr1.out _ A3.out O3.out; with_reducible refine Calls.mono hqq ?_; clear hqq; rintro r V4 ⟨rfl, h1, h2⟩; obtain ⟨z0, z1, z2, z3⟩ := HX.out V4 h2; have A4 := hide h1; have O4 := hide h2; clear h1 h2 z0)
            | (go_at_call 14; have hqq := HFr2.out _ A4.out O4.out; with_reducible refine Calls.mono hqq ?_; clear hqq; rintro r V5 ⟨rfl, h1, h2⟩; obtain ⟨k0, k1, k2, k3⟩ := HX.out V5 h2; have A5 := hide h1; have O5 := hide h2; clear h1 h2 k0)
            | (go_at_call 16; have hqq := HFd2.out _ A5.out O5.out; with_reducible refine Calls.mono hqq ?_; clear hqq; rintro r V6 ⟨rfl, h1, h2⟩; obtain ⟨m0, m1, m2, m3⟩ := HX.out V6 h2; have A6 := hide h1; have O6 := hide h2; clear h1 h2 m0)
            | (go_at_call 17; have hqq := HLi.out _ A6.out O6.out; with_reducible refine Calls.mono hqq ?_; clear hqq; rintro r V7 ⟨va7, vc7, rfl, h1, h2⟩; obtain ⟨n0, n1, n2, n3⟩ := HX.out V7 h2; have A7 := hide h1; have O7 := hide h2; clear h1 h2 n0))
        have HO7 := hide (HO.out.then HS.out (HO0.out.trans O7.out))
        clear x1 x2 x3 y1 y2 y3 z1 z2 z3 k1 k2 k3 m1 m2 m3 n1 n2 n3 d0 d1 d2 HX Hsa HFd1 HFr1 HFr2 HFd2 HLi A2 O2 A3 O3 A4 O4 A5 O5 A6 O6 i1 i2 i3 i4 i5 i6 i7 i8 i9 i10
        go_wp2
        go_roundw
        case rel => exact ⟨i + 1, by omega, by go_num, vk, l3, A7.out, Hu1.out, Hso1.out, Hl1.out, HO7.out, HS.out⟩
        case measure => simp [intOf]; omega
      · obtain rfl : i = R.length := by omega
        have hend : sortC s (open' lk) = [] := by rw [hso]; simp
        have hnx := next_any w.heap.size w.heap.size s vk lk wr hA
        rw [show ((lk.filter fun e => !e.fired).map fun e => e.ac.co) = open' lk from rfl, hend] at hnx
        have Hnx := hide hnx
        have HA := hide hA
        have Hlk := hide hlk
        have HBr := hide (AgOnly.below HB3.out hO (Nat.le_refl _) (fun i hi => by have := Hrow2.out i hi; omega) HB3.out.size)
        clear hq hA hu hso hlk hO hS hend hnx
        go_wp2_with fail
        refine Hnx.out.mono ?_
        rintro e V1 ⟨y, q, rfl, hy, hbV1⟩
        obtain ⟨rfl, rfl⟩ := hy
        obtain ⟨W0, hW0⟩ : ∃ W0, V1.alloc (Obj.cells #[.int .i64 0, .slice none 0 0, .int .i64 0] 27) = W0 := ⟨_, rfl⟩
        have ob : Below V1.heap.size V1 W0 := by rw [← hW0]; exact ((Only.refl [] V1).alloc _).below
        have hall := all_any w.heap.size w.heap.size s vk lk W0 ((HA.out.below hbV1).below ob)
        have Hall := hide hall
        have HB1' := hide (HBr.out.trans ((hbV1.trans (ob.mono hbV1.size)).mono HBr.out.size))
        have HW0 := hide hW0
        clear hW0 ob hall hbV1 Hnx HA
        go_upto_region 14 with fail
        rw [HW0.out]
        go_wp2_with fail
        refine Hall.out.mono ?_
        rintro e V2 ⟨v', l', rfl, hres, hc, hb2⟩
        have hl' : l'.length = R.length := by
          have := congrArg List.length hc
          rw [sortC_length] at this
          simp at this
          rw [this, Hlk.out, HRlen.out]
        obtain ⟨a', c', rfl⟩ := hres.acts.form
        rw [hl']
        have HB2' := hide (HB1'.out.trans (hb2.mono HB1'.out.size))
        clear hres hc hb2 hl' Hall
        go_wp2_with (go_at_call 9; refine (known27_walk _).mono ?_; rintro e w' ⟨rfl, hk⟩)
        go_ret
        exact ⟨rfl, HB2'.out.trans (hk.mono HB2'.out.size)⟩
end Go.Proofs.Ytelgajgghgknnaa
