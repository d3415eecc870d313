/- The walk of slices' symMerge at a row of activations: its midst. -/
import Derived.Test.YtelgajgghgknnaaStableM
namespace Go.Proofs.Ytelgajgghgknnaa
open Go Go.RowKit Go.MapKept Go.Sort

theorem merged {lt : Ac → Ac → Bool} {a i mid e b m : Nat} {d d1 d2 d3 : Array Ac} (P : Parted lt a i mid e b d1) (hb : b ≤ d.size) (hm : Moved (rotIx i m e) d d1) (k1 : a ≤ i) (k2 : i ≤ m) (k3 : m ≤ e) (k4 : e ≤ b) (k5 : i ≤ mid) (k6 : mid ≤ e)
    (p1 : PermIn a mid d1 d2) (s1 : SortedIn lt a mid d2) (p2 : PermIn mid b d2 d3) (s2 : SortedIn lt mid b d3) : PermIn a b d d3 ∧ SortedIn lt a b d3 := by
  have q1 := widen (perm_rot hm k2 k3 (by omega)) k1 k4 hb
  have z1 := hm.1
  have z2 := p1.1
  have q2 := widen p1 (Nat.le_refl _) (show mid ≤ b by omega) (by omega)
  have q3 := widen p2 (show a ≤ mid by omega) (Nat.le_refl _) (by omega)
  exact ⟨permIn_trans _ _ _ _ _ q1 (permIn_trans _ _ _ _ _ q2 q3), P.whole (by omega) (by omega) (by omega) p1 s1 p2 s2⟩

theorem rotate_at (good : Ac → Prop) (w : World) (blk off cap sz a m b : Nat) (d : Array Ac) (f : Value) (wr : World) (h : At good w blk off sz d wr) (ham : a < m) (hmb : m < b) (hb : b ≤ sz) (hsz : sz ≤ 1000000) :
    Calls Try.prog 86 #[.slice (some ⟨blk, off, none⟩) sz cap, .int .i64 a, .int .i64 m, .int .i64 b, f] wr fun e w' => e = .returned (.tuple #[]) ∧ ∃ d', Moved (rotIx a m b) d d' ∧ At good w blk off sz d' w' :=
  (rotate_any blk off cap sz a m b d f wr h.size h.row ham hmb hb hsz).mono fun _ _ ⟨he, d', h1, h2, h3⟩ => ⟨he, d', h1, h1.1.trans h.size, h2, h.only.trans h3, fun i hi => by
    rw [h1.2 i]
    refine h.good _ ?_
    unfold rotIx
    repeat' split
    all_goals omega, h.lt⟩

section
variable (g : Nat) (cb : Array Value) (cf : Ac → Ac → Int) (good : Ac → Prop) (w : World) (blk off cap sz : Nat)

/-- What symMerge owes at a range. -/
def MergesAt (a m b : Nat) : Prop := ∀ (d : Array Ac) (wr : World), At good w blk off sz d wr → SortedIn (fun x y => decide (cf x y < 0)) a m d → SortedIn (fun x y => decide (cf x y < 0)) m b d →
  Calls Try.prog 74 #[.slice (some ⟨blk, off, none⟩) sz cap, .int .i64 a, .int .i64 m, .int .i64 b, .func (.func g) #[] cb] wr fun e w' => e = .returned (.tuple #[]) ∧ ∃ d', PermIn a b d d' ∧ SortedIn (fun x y => decide (cf x y < 0)) a b d' ∧ At good w blk off sz d' w'

set_option maxRecDepth 100000 in
set_option maxHeartbeats 4000000 in
theorem merge_mid (eg : ∀ args w, (callFunc g args).run Try.prog w = .ok (.enter g args) w) (hS : SWO (fun x y => decide (cf x y < 0))) (hC : CmpIs g cb cf good blk w) (hsz : sz ≤ 1000000) (a m b : Nat) (hab : a + 1 < m) (hmb : m + 1 < b) (hb : b ≤ sz)
    (IH : ∀ a' m' b', a' < m' → m' < b' → b' ≤ b → b' - a' < b - a → MergesAt g cb cf good w blk off cap sz a' m' b') : MergesAt g cb cf good w blk off cap sz a m b := by
  intro d wr h h1 h2
  have H := hide h
  have HC := hide hC
  have HS := hide hS
  have H1 := hide h1
  have H2 := hide h2
  have HI := hide IH
  clear h hC hS h1 h2 IH
  have q1 : ((m : Int) - (a : Int) == 1) = false := by rw [beq_eq_false_iff_ne]; omega
  have q0 : ((b : Int) - (m : Int) == 1) = false := by rw [beq_eq_false_iff_ne]; omega
  obtain ⟨mid, hmid⟩ : ∃ mid, mid = (a + b) / 2 := ⟨_, rfl⟩
  have g1 : a < mid := by omega
  have g2 : mid < b := by omega
  have g3 : mid + mid ≤ a + b := by omega
  have g4 : a + b ≤ mid + mid + 1 := by omega
  have em : ((a : Int) + (b : Int)) / 2 = (mid : Int) := by omega
  have Em := hide em
  have Hmid := hide hmid
  clear em hmid
  obtain ⟨st0, r0, h0⟩ : ∃ st0 r0, if mid < m then st0 = mid + m - b ∧ r0 = mid else st0 = a ∧ r0 = m := by
    split
    · exact ⟨_, _, rfl, rfl⟩
    · exact ⟨_, _, rfl, rfl⟩
  have s1 : st0 ≤ r0 := by split at h0 <;> omega
  have s2 : r0 ≤ m := by split at h0 <;> omega
  have s3 : a ≤ st0 := by split at h0 <;> omega
  have s4 : mid + m ≤ st0 + b := by split at h0 <;> omega
  have s5 : r0 ≤ mid := by split at h0 <;> omega
  have HO := hide h0
  have s6 : mid < m → (mid : Int) + (m : Int) - (b : Int) = (st0 : Int) ∧ (mid : Int) = (r0 : Int) := fun hh => by rw [if_pos hh] at h0; omega
  have s7 : ¬ mid < m → (a : Int) = (st0 : Int) ∧ (m : Int) = (r0 : Int) := fun hh => by rw [if_neg hh] at h0; omega
  have S6 := hide s6
  have S7 := hide s7
  clear h0 s6 s7
  go_enter Try.func74, Try.ntmps74
  go_upto_if 140 with fail
  rw [Em.out]
  go_cut [20, 21] from 129 to 146 (fun u20 u21 wx => u20 = .int .i64 st0 ∧ u21 = .int .i64 r0 ∧ wx = wr)
  case first =>
    by_cases hmm : mid < m
    · obtain ⟨s6a, s6b⟩ := S6.out hmm
      have S6a := hide s6a
      have S6b := hide s6b
      clear s6a s6b
      go_wp2
      go_meet
      case rel => exact ⟨congrArg (Value.int .i64) S6a.out, congrArg (Value.int .i64) S6b.out, rfl⟩
    · obtain ⟨s7a, s7b⟩ := S7.out hmm
      have S7a := hide s7a
      have S7b := hide s7b
      clear s7a s7b
      go_wp2
      go_meet
      case rel => exact ⟨congrArg (Value.int .i64) S7a.out, congrArg (Value.int .i64) S7b.out, rfl⟩
  case rest =>
    obtain ⟨rfl, rfl, rfl⟩ := hcut
    clear S6 S7 Em
    go_wp2_with fail
    obtain ⟨p, hp⟩ : ∃ p, p = mid + m - 1 := ⟨_, rfl⟩
    have ep : (mid : Int) + (m : Int) - 1 = (p : Int) := by omega
    have p1 : p + 1 = mid + m := by omega
    rw [ep]
    clear ep
    have P1 := hide p1
    have p2 : p + 1 ≤ mid + m := by omega
    have p3 : mid + m ≤ p + 1 := by omega
    clear hp p1
    go_loopw [20, 21] (fun vi vj wr' => ∃ i j : Nat, st0 ≤ i ∧ i ≤ j ∧ j ≤ r0 ∧ vi = .int .i64 i ∧ vj = .int .i64 j ∧ Hid ((i = st0 ∨ decide (cf d[mid + m - i]! d[i - 1]! < 0) = false) ∧ (j = r0 ∨ decide (cf d[mid + m - 1 - j]! d[j]! < 0) = true)) ∧ Hid (At good w blk off sz d wr')) (fun i j _ => (intOf j - intOf i).toNat)
    case atStart => exact ⟨st0, r0, Nat.le_refl _, s1, Nat.le_refl _, rfl, rfl, ⟨.inl rfl, .inl rfl⟩, H.out⟩
    case round =>
      obtain ⟨i, j, hi, hij, hj, rfl, rfl, hq, hA⟩ := hrel
      by_cases hlt : i < j
      · obtain ⟨h, hh⟩ : ∃ h : Nat, h = (i + j) / 2 := ⟨_, rfl⟩
        have b1 : i ≤ h := by omega
        have b2 : h < j := by omega
        have eh : ((i : Int) + (j : Int)) / 2 = (h : Int) := by omega
        obtain ⟨c, hc⟩ : ∃ c, c = p - h := ⟨_, rfl⟩
        have b3 : c + h = p := by omega
        have b4 : c < sz := by omega
        have ec : (p : Int) - (h : Int) = (c : Int) := by omega
        obtain ⟨r1, a1, n1, k1, s1', hv1, ⟨x0, x1, x2⟩, _, _⟩ := hA.out.at (i := h) (by omega)
        obtain ⟨r2, a2, n2, k2, s2', hv2, ⟨y0, y1, y2⟩, _, _⟩ := hA.out.at (i := c) (by omega)
        have hcall := HC.out d[c]! d[h]! (hA.out.good c (by omega)) (hA.out.good h (by omega)) wr.drew hA.out.only.drew
        rw [hv2, hv1] at hcall
        have Hcall := hide hcall
        have Eh := hide eh
        have Ec := hide ec
        have B3 := hide b3
        have b5 : c + h ≤ p := by omega
        have b6 : p ≤ c + h := by omega
        have hblk := hide (Nat.lt_of_lt_of_le hA.out.lt hA.out.only.size)
        obtain ⟨q, hqe⟩ : ∃ q, cf d[c]! d[h]! = q := ⟨_, rfl⟩
        have hk : ∀ V, Below wr.drew.heap.size wr.drew V → (V.cell? ⟨blk, off + h * 3, none⟩ = some (.int .i64 r1) ∧ V.cell? ⟨blk, off + h * 3 + 1, none⟩ = some (.slice a1 n1 k1) ∧ V.cell? ⟨blk, off + h * 3 + 2, none⟩ = some (.int .i64 s1')) ∧
            (V.cell? ⟨blk, off + c * 3, none⟩ = some (.int .i64 r2) ∧ V.cell? ⟨blk, off + c * 3 + 1, none⟩ = some (.slice a2 n2 k2) ∧ V.cell? ⟨blk, off + c * 3 + 2, none⟩ = some (.int .i64 s2')) := fun V hb =>
          ⟨⟨(hb.cell (p := ⟨blk, off + h * 3, none⟩) hblk).trans x0, (hb.cell (p := ⟨blk, off + h * 3 + 1, none⟩) hblk).trans x1, (hb.cell (p := ⟨blk, off + h * 3 + 2, none⟩) hblk).trans x2⟩, (hb.cell (p := ⟨blk, off + c * 3, none⟩) hblk).trans y0, (hb.cell (p := ⟨blk, off + c * 3 + 1, none⟩) hblk).trans y1, (hb.cell (p := ⟨blk, off + c * 3 + 2, none⟩) hblk).trans y2⟩
        have Hk := hide hk
        rw [hqe] at hcall Hcall
        have Hqe := hide hqe
        clear hcall hqe hk eh ec hh hc b3 hv1 hv2
        go_wp2_with fail
        rw [Eh.out]
        have i0 : IntKind.i64.wrap ((p : Int) - (h : Int)) = (c : Int) := by rw [Ec.out]; exact IntWalk.i64_in _ (by omega)
        have i1 : (0 : Int) ≤ (h : Int) := by omega
        have i2 : (h : Int) < (sz : Int) := by omega
        have i3 : (0 : Int) ≤ (c : Int) := by omega
        have i4 : (c : Int) < (sz : Int) := by omega
        go_region_held3 (fun V => V.cell? ⟨blk, off + h * 3, none⟩ = some (.int .i64 r1) ∧ V.cell? ⟨blk, off + h * 3 + 1, none⟩ = some (.slice a1 n1 k1) ∧ V.cell? ⟨blk, off + h * 3 + 2, none⟩ = some (.int .i64 s1') ∧ V.cell? ⟨blk, off + c * 3, none⟩ = some (.int .i64 r2) ∧ V.cell? ⟨blk, off + c * 3 + 1, none⟩ = some (.slice a2 n2 k2) ∧ V.cell? ⟨blk, off + c * 3 + 2, none⟩ = some (.int .i64 s2')) (go_keep)
          ((go_at_fn g; have hq := Hcall.out; with_reducible refine Calls.mono hq ?_; clear hq; rintro e V ⟨rfl, hbV⟩; obtain ⟨⟨z0, z1, z2⟩, z3, z4, z5⟩ := Hk.out V hbV; have HbV := hide hbV; clear hbV))
        have hAV := hide ((hA.out.drew).below HbV.out)
        clear z0 z1 z2 z3 z4 z5 x0 x1 x2 y0 y1 y2 HbV Hk Hcall i0 i1 i2 i3 i4
        go_wp2
        · have hx : (!decide (q < 0)) = true := by assumption
          go_roundw
          case rel => exact ⟨h + 1, j, by omega, by omega, hj, by go_num, rfl, ⟨.inr (by rw [Nat.add_sub_cancel, show mid + m - (h + 1) = c by omega, Hqe.out]; simpa using hx), hq.out.2⟩, hAV.out⟩
          case measure => simp [intOf]; omega
        · have hx : (!decide (q < 0)) = false := by assumption
          go_roundw
          case rel => exact ⟨i, h, hi, b1, by omega, rfl, rfl, ⟨hq.out.1, .inr (by rw [show mid + m - 1 - h = c by omega, Hqe.out]; simpa using hx)⟩, hAV.out⟩
          case measure => simp [intOf]; omega
      · obtain rfl : i = j := by omega
        clear p2 p3 P1 H
        obtain ⟨e, he⟩ : ∃ e, e = mid + m - i := ⟨_, rfl⟩
        have k1 : a ≤ i := by omega
        have k2 : i ≤ m := by omega
        have k3 : m ≤ e := by omega
        have k4 : e ≤ b := by omega
        have k5 : i ≤ mid := by omega
        have k6 : mid ≤ e := by omega
        have k7 : e ≤ sz := by omega
        have ee : (mid : Int) + (m : Int) - (i : Int) = (e : Int) := by omega
        have hcut : ∀ d', Moved (rotIx i m e) d d' → Parted (fun x y => decide (cf x y < 0)) a i mid e b d' := fun d' hmv => by
          rw [he] at hmv
          have hp := parted_of_cut HS.out Hmid.out H1.out H2.out HO.out hi hj hq.out.1 hq.out.2 hmv
          rw [he]
          exact hp.2.2.2.2.2.2
        have Hcut := hide hcut
        have Ee := hide ee
        have k8 : e + i ≤ mid + m := by omega
        have k9 : mid + m ≤ e + i := by omega
        clear hcut ee he hq HO Hmid
        go_upto_region 39 with fail
        rw [Ee.out]
        clear Ee
        by_cases cA : i < m ∧ m < e
        · obtain ⟨cA1, cA2⟩ := cA
          have k10 : i < mid := by omega
          have k11 : mid < e := by omega
          go_wp2_with fail
          refine (rotate_at good w blk off cap sz i m e d _ _ hA.out cA1 cA2 k7 hsz).mono ?_
          rintro e' w1 ⟨rfl, d1, hm1, hA1⟩
          have HP := hide (Hcut.out d1 hm1)
          have HM1 := hide hm1
          have HA1 := hide hA1
          clear hm1 hA1 Hcut
          by_cases ca : a < i
          · by_cases cb' : e < b
            · go_wp2_with fail
              refine (HI.out a i mid ca k10 (by omega) (by omega) d1 _ HA1.out HP.out.l1 HP.out.l2).mono ?_
              rintro e' w2 ⟨rfl, d2, hp2, hs2, hA2⟩
              have HA2 := hide hA2
              have HP2 := hide hp2
              have HS2 := hide hs2
              clear hA2 hp2 hs2
              go_wp2_with fail
              refine (HI.out mid e b k11 cb' (by omega) (by omega) d2 _ HA2.out (SortedIn.same HP.out.r1 fun q hq1 _ => HP2.out.2.1 q (.inr hq1)) (SortedIn.same HP.out.r2 fun q hq1 _ => HP2.out.2.1 q (.inr (by omega)))).mono ?_
              rintro e' w3 ⟨rfl, d3, hp3, hs3, hA3⟩
              have HA3 := hide hA3
              have HF := hide (merged HP.out (by have := hA.out.size; omega) HM1.out k1 k2 k3 k4 k5 k6 HP2.out HS2.out hp3 hs3)
              clear hA3 hp3 hs3
              go_wp2
              go_end0
              exact ⟨rfl, d3, HF.out.1, HF.out.2, HA3.out⟩
            · go_wp2_with fail
              refine (HI.out a i mid ca k10 (by omega) (by omega) d1 _ HA1.out HP.out.l1 HP.out.l2).mono ?_
              rintro e' w2 ⟨rfl, d2, hp2, hs2, hA2⟩
              have HA2 := hide hA2
              have HF := hide (merged HP.out (by have := hA.out.size; omega) HM1.out k1 k2 k3 k4 k5 k6 hp2 hs2 (permIn_refl d2 mid b) (SortedIn.same (SortedIn.sub HP.out.r1 (Nat.le_refl _) (by omega)) fun q hq1 _ => hp2.2.1 q (.inr hq1)))
              clear hA2 hp2 hs2
              go_wp2
              go_end0
              exact ⟨rfl, d2, HF.out.1, HF.out.2, HA2.out⟩
          · by_cases cb' : e < b
            · go_wp2_with fail
              refine (HI.out mid e b k11 cb' (by omega) (by omega) d1 _ HA1.out HP.out.r1 HP.out.r2).mono ?_
              rintro e' w3 ⟨rfl, d3, hp3, hs3, hA3⟩
              have HA3 := hide hA3
              have HF := hide (merged HP.out (by have := hA.out.size; omega) HM1.out k1 k2 k3 k4 k5 k6 (permIn_refl d1 a mid) (SortedIn.sub HP.out.l2 (by omega) (Nat.le_refl _)) hp3 hs3)
              clear hA3 hp3 hs3
              go_wp2
              go_end0
              exact ⟨rfl, d3, HF.out.1, HF.out.2, HA3.out⟩
            · have HF := hide (merged HP.out (by have := hA.out.size; omega) HM1.out k1 k2 k3 k4 k5 k6 (permIn_refl d1 a mid) (SortedIn.sub HP.out.l2 (by omega) (Nat.le_refl _)) (permIn_refl d1 mid b) (SortedIn.sub HP.out.r1 (Nat.le_refl _) (by omega)))
              go_wp2
              go_end0
              exact ⟨rfl, d1, HF.out.1, HF.out.2, HA1.out⟩
        · have hm0 : Moved (rotIx i m e) d d := (Moved.refl d).congr fun x => by
            rcases (by omega : i = m ∨ m = e) with q | q
            · rw [q, rot_none1]
            · rw [← q, rot_none2]
          have HP := hide (Hcut.out d hm0)
          have HM1 := hide hm0
          clear hm0 Hcut
          by_cases cB : i < m
          · have c2 : ¬ m < e := by omega
            have c3 : ¬ i < mid := by omega
            have c4 : mid < e := by omega
            have c5 : e < b := by omega
            clear cA
            go_wp2_with fail
            refine (HI.out mid e b c4 c5 (by omega) (by omega) d _ hA.out HP.out.r1 HP.out.r2).mono ?_
            rintro e' w3 ⟨rfl, d3, hp3, hs3, hA3⟩
            have HA3 := hide hA3
            have HF := hide (merged HP.out (by have := hA.out.size; omega) HM1.out k1 k2 k3 k4 k5 k6 (permIn_refl d a mid) (SortedIn.sub HP.out.l1 (Nat.le_refl _) (by omega)) hp3 hs3)
            clear hA3 hp3 hs3
            go_wp2
            go_end0
            exact ⟨rfl, d3, HF.out.1, HF.out.2, HA3.out⟩
          · have c2 : ¬ mid < e := by omega
            have c3 : a < i := by omega
            clear cA
            by_cases c4 : i < mid
            · go_wp2_with fail
              refine (HI.out a i mid c3 c4 (by omega) (by omega) d _ hA.out HP.out.l1 HP.out.l2).mono ?_
              rintro e' w2 ⟨rfl, d2, hp2, hs2, hA2⟩
              have HA2 := hide hA2
              have HF := hide (merged HP.out (by have := hA.out.size; omega) HM1.out k1 k2 k3 k4 k5 k6 hp2 hs2 (permIn_refl d2 mid b) (SortedIn.same (SortedIn.sub HP.out.r2 (by omega) (Nat.le_refl _)) fun q hq1 _ => hp2.2.1 q (.inr hq1)))
              clear hA2 hp2 hs2
              go_wp2
              go_end0
              exact ⟨rfl, d2, HF.out.1, HF.out.2, HA2.out⟩
            · have HF := hide (merged HP.out (by have := hA.out.size; omega) HM1.out k1 k2 k3 k4 k5 k6 (permIn_refl d a mid) (SortedIn.sub HP.out.l1 (Nat.le_refl _) (by omega)) (permIn_refl d mid b) (SortedIn.sub HP.out.r2 (by omega) (Nat.le_refl _)))
              go_wp2
              go_end0
              exact ⟨rfl, d, HF.out.1, HF.out.2, hA.out⟩

/-- symMerge sorts. -/
theorem merge_any (eg : ∀ args w, (callFunc g args).run Try.prog w = .ok (.enter g args) w) (hS : SWO (fun x y => decide (cf x y < 0))) (hC : CmpIs g cb cf good blk w) (hsz : sz ≤ 1000000) :
    ∀ (n a m b : Nat), b - a ≤ n → a < m → m < b → b ≤ sz → MergesAt g cb cf good w blk off cap sz a m b := by
  intro n
  induction n with
  | zero => intro a m b h1 h2 h3; omega
  | succ n ih =>
    intro a m b hn ham hmb hb
    by_cases c1 : m = a + 1
    · intro d wr h h1 h2
      subst c1
      exact merge_left g cb cf good w blk off cap sz eg hS hC hsz a b d wr h (a + 1) rfl hmb hb h2
    · by_cases c2 : b = m + 1
      · intro d wr h h1 h2
        exact merge_right g cb cf good w blk off cap sz eg hS hC hsz a b d wr h m c2 (by omega) hb h1
      · exact merge_mid g cb cf good w blk off cap sz eg hS hC hsz a m b (by omega) (by omega) hb fun a' m' b' h1 h2 h3 h4 => ih a' m' b' (by omega) h1 h2 (by omega)
end
end Go.Proofs.Ytelgajgghgknnaa
