/- ExprJoins: the law's walk. -/
import Derived.Test.YtkjndabbkfbkaaaGreatDoorExY
import Derived.Test.YtkjndabbkfbkaaaGreatDoorExO
namespace Go.Proofs.YtkjndabbkfbkaaaGreatDoor
open Go Go.RowKit Go.Lib Go.Sort Go.Shelf

set_option maxRecDepth 100000 in
set_option maxHeartbeats 16000000 in
theorem joins_none (s t : ByteArray) (op : Int) (h0 : 0 ≤ op) (h1 : op ≤ 255) (w : World) (hR : Rd w) (hs : s.size ≤ 300) (ht : t.size ≤ 300) {a b : Ex} (ha : readL (dl s) = .ok a) (hb : readL (dl t) = .ok b) :
    Calls Tryz.prog 6 #[.string s, .string t, .int .u8 op] w fun e w' => e = .returned (.bool true) ∧ Below w.heap.size w w' := by
  have i1 : decide ((300 : Int) < (s.size : Int)) = false := by simp; omega
  have i2 : decide ((300 : Int) < (t.size : Int)) = false := by simp; omega
  have h60a : a.size ≤ 60 := by obtain ⟨_, _, _, h3⟩ := readL_ok ha; exact h3
  have h60b : b.size ≤ 60 := by obtain ⟨_, _, _, h3⟩ := readL_ok hb; exact h3
  have HSA := hide (read_slim ha)
  have HSB := hide (read_slim hb)
  have L1 := hide (rtree w (by omega) hR ha)
  have L2 := fun V hV => hide (rtree V (by omega) hV hb)
  have HJ := hide (fun x (hx : x ∈ signs12) => joins_read hx ha hb)
  have HR := hide hR
  clear hR ha hb
  go_enter Tryz.func6, Tryz.ntmps6
  go_wp2_with fail
  (with_reducible refine L1.out.mono ?_)
  rintro e V1 ⟨v1, rfl, ht1, hb1⟩
  have hz1 := ht1.z (by rw [Ex.flat_len]; omega) HSA.out
  have hz1 := hz1.below ((Below.refl _ V1).alloc (Nat.le_refl _) (.cells #[.int .i64 0, .int .i64 0] 26))
  have HZ1 := hide hz1
  have hb2 : Below w.heap.size w (V1.alloc (.cells #[.int .i64 0, .int .i64 0] 26)) := hb1.alloc hb1.size _
  have HB2 := hide hb2
  clear hb1 hb2 L1 ht1 hz1
  go_wp2_with fail
  (with_reducible refine (L2 _ (HR.out.below HB2.out)).out.mono ?_)
  rintro e V2 ⟨v2, rfl, ht2, hb3⟩
  have hb4 := HB2.out.trans (hb3.mono HB2.out.size)
  have hb5 : Below w.heap.size w (V2.alloc (.cells #[.int .i64 0, .int .i64 0] 26)) := hb4.alloc hb4.size _
  have HB5 := hide hb5
  have hz2 := ht2.z (by rw [Ex.flat_len]; omega) HSB.out
  have hz1 := HZ1.out.below hb3
  have hlna : ((a.flat 0).map Nd.z).length = a.size := by rw [List.length_map, Ex.flat_len]
  have hlnb : ((b.flat 0).map Nd.z).length = b.size := by rw [List.length_map, Ex.flat_len]
  have HZ1 := hide hz1
  have HZ2 := hide hz2
  obtain ⟨_, va, vc, rfl, _⟩ := hz1
  obtain ⟨_, vb, vd, rfl, _⟩ := hz2
  rw [hlna, hlnb]
  rw [hlna] at HZ1
  rw [hlnb] at HZ2
  clear hb3 hb4 hb5 HB2 L2 ht2 hlna hlnb
  obtain ⟨k, hk, hk12⟩ : ∃ k : Nat, op % 12 = (k : Int) ∧ k < 12 := ⟨(op % 12).toNat, by omega, by omega⟩
  have k1 : (0 : Int) ≤ (k : Int) := by omega
  have k2 : (k : Int) < 12 := by omega
  have hO : (((V2.alloc (.cells #[.int .i64 0, .int .i64 0] 26)).alloc (.cells #[.string ⟨#[111, 114]⟩, .string ⟨#[97, 110, 100]⟩, .string ⟨#[61]⟩, .string ⟨#[60, 62]⟩, .string ⟨#[60]⟩, .string ⟨#[60, 61]⟩, .string ⟨#[62]⟩, .string ⟨#[62, 61]⟩, .string ⟨#[43]⟩, .string ⟨#[45]⟩, .string ⟨#[42]⟩, .string ⟨#[47]⟩] 9)).alloc (.cells #[.int .u8 4, .int .u8 5, .int .u8 7, .int .u8 8, .int .u8 9, .int .u8 10, .int .u8 11, .int .u8 12, .int .u8 13, .int .u8 14, .int .u8 15, .int .u8 16] 5)).heap[V2.heap.size + 1 + 1]? = some (.cells #[.int .u8 4, .int .u8 5, .int .u8 7, .int .u8 8, .int .u8 9, .int .u8 10, .int .u8 11, .int .u8 12, .int .u8 13, .int .u8 14, .int .u8 15, .int .u8 16] 5) := by
    have := heap_alloc0 ((V2.alloc (.cells #[.int .i64 0, .int .i64 0] 26)).alloc (.cells #[.string ⟨#[111, 114]⟩, .string ⟨#[97, 110, 100]⟩, .string ⟨#[61]⟩, .string ⟨#[60, 62]⟩, .string ⟨#[60]⟩, .string ⟨#[60, 61]⟩, .string ⟨#[62]⟩, .string ⟨#[62, 61]⟩, .string ⟨#[43]⟩, .string ⟨#[45]⟩, .string ⟨#[42]⟩, .string ⟨#[47]⟩] 9)) (.cells #[.int .u8 4, .int .u8 5, .int .u8 7, .int .u8 8, .int .u8 9, .int .u8 10, .int .u8 11, .int .u8 12, .int .u8 13, .int .u8 14, .int .u8 15, .int .u8 16] 5)
    simpa using this
  have hS : (((V2.alloc (.cells #[.int .i64 0, .int .i64 0] 26)).alloc (.cells #[.string ⟨#[111, 114]⟩, .string ⟨#[97, 110, 100]⟩, .string ⟨#[61]⟩, .string ⟨#[60, 62]⟩, .string ⟨#[60]⟩, .string ⟨#[60, 61]⟩, .string ⟨#[62]⟩, .string ⟨#[62, 61]⟩, .string ⟨#[43]⟩, .string ⟨#[45]⟩, .string ⟨#[42]⟩, .string ⟨#[47]⟩] 9)).alloc (.cells #[.int .u8 4, .int .u8 5, .int .u8 7, .int .u8 8, .int .u8 9, .int .u8 10, .int .u8 11, .int .u8 12, .int .u8 13, .int .u8 14, .int .u8 15, .int .u8 16] 5)).heap[V2.heap.size + 1]? = some (.cells #[.string ⟨#[111, 114]⟩, .string ⟨#[97, 110, 100]⟩, .string ⟨#[61]⟩, .string ⟨#[60, 62]⟩, .string ⟨#[60]⟩, .string ⟨#[60, 61]⟩, .string ⟨#[62]⟩, .string ⟨#[62, 61]⟩, .string ⟨#[43]⟩, .string ⟨#[45]⟩, .string ⟨#[42]⟩, .string ⟨#[47]⟩] 9) := by
    have h := heap_alloc0 (V2.alloc (.cells #[.int .i64 0, .int .i64 0] 26)) (.cells #[.string ⟨#[111, 114]⟩, .string ⟨#[97, 110, 100]⟩, .string ⟨#[61]⟩, .string ⟨#[60, 62]⟩, .string ⟨#[60]⟩, .string ⟨#[60, 61]⟩, .string ⟨#[62]⟩, .string ⟨#[62, 61]⟩, .string ⟨#[43]⟩, .string ⟨#[45]⟩, .string ⟨#[42]⟩, .string ⟨#[47]⟩] 9)
    have hb := (Below.refl _ ((V2.alloc (.cells #[.int .i64 0, .int .i64 0] 26)).alloc (.cells #[.string ⟨#[111, 114]⟩, .string ⟨#[97, 110, 100]⟩, .string ⟨#[61]⟩, .string ⟨#[60, 62]⟩, .string ⟨#[60]⟩, .string ⟨#[60, 61]⟩, .string ⟨#[62]⟩, .string ⟨#[62, 61]⟩, .string ⟨#[43]⟩, .string ⟨#[45]⟩, .string ⟨#[42]⟩, .string ⟨#[47]⟩] 9))).alloc (Nat.le_refl _) (.cells #[.int .u8 4, .int .u8 5, .int .u8 7, .int .u8 8, .int .u8 9, .int .u8 10, .int .u8 11, .int .u8 12, .int .u8 13, .int .u8 14, .int .u8 15, .int .u8 16] 5)
    rw [show (V2.alloc (.cells #[.int .i64 0, .int .i64 0] 26)).heap.size = V2.heap.size + 1 by simp] at h
    exact (hb.block _ (lt_of_heap h)).trans h
  obtain ⟨x, hx, hsg, hog, hx3⟩ := table_get _ _ _ hS hO k hk12
  obtain ⟨sg, hsgv⟩ : ∃ sg : ByteArray, ⟨x.1.toArray⟩ = sg := ⟨_, rfl⟩
  have i3 : sg.size ≤ 3 := by rw [← hsgv]; simpa [ByteArray.size] using hx3
  rw [hsgv] at hsg
  have hdl : dl (⟨#[40]⟩ ++ s ++ ⟨#[10, 41, 32]⟩ ++ sg ++ ⟨#[32, 40]⟩ ++ t ++ ⟨#[10, 41]⟩) = joinT (dl s) x.1 (dl t) := by
    rw [dl_app, dl_app, dl_app, dl_app, dl_app, dl_app, ← hsgv]
    simp [joinT, dl, List.append_assoc]
  have hsz3 : (⟨#[40]⟩ ++ s ++ ⟨#[10, 41, 32]⟩ ++ sg ++ ⟨#[32, 40]⟩ ++ t ++ ⟨#[10, 41]⟩ : ByteArray).size ≤ 65536 := by
    simp only [ByteArray.size_append]
    show 1 + s.size + 3 + sg.size + 2 + t.size + 2 ≤ _
    omega
  have HX := hide hx
  clear hS hO hsgv hx
  have hb6 : Below w.heap.size w (((V2.alloc (.cells #[.int .i64 0, .int .i64 0] 26)).alloc (.cells #[.string ⟨#[111, 114]⟩, .string ⟨#[97, 110, 100]⟩, .string ⟨#[61]⟩, .string ⟨#[60, 62]⟩, .string ⟨#[60]⟩, .string ⟨#[60, 61]⟩, .string ⟨#[62]⟩, .string ⟨#[62, 61]⟩, .string ⟨#[43]⟩, .string ⟨#[45]⟩, .string ⟨#[42]⟩, .string ⟨#[47]⟩] 9)).alloc (.cells #[.int .u8 4, .int .u8 5, .int .u8 7, .int .u8 8, .int .u8 9, .int .u8 10, .int .u8 11, .int .u8 12, .int .u8 13, .int .u8 14, .int .u8 15, .int .u8 16] 5)) := (HB5.out.alloc HB5.out.size _).alloc (by have := HB5.out.size; simp at this ⊢; omega) _
  have HB6 := hide hb6
  clear hb6 HB5
  rcases HJ.out x HX.out with ⟨⟨py, pz⟩, q, hr, hq⟩ | ⟨a', b', y, z, hr, hba, hbb, hsum⟩
  · rw [← hdl] at hr
    have L3 := hide (rnone _ hsz3 (HR.out.below HB6.out) hr)
    clear hr hdl hsz3 HJ
    go_wp2_with fail
    (with_reducible refine L3.out.mono ?_)
    rintro e V4 ⟨rfl, hb7⟩
    have hb8 := HB6.out.trans (hb7.mono HB6.out.size)
    have hb9 : Below w.heap.size w (V4.alloc (.cells #[.int .i64 py, .int .i64 pz] 26)) := hb8.alloc hb8.size _
    have Hkn := hide (known07 _ (HR.out.below hb9))
    have HB9 := hide hb9
    clear hb7 hb8 hb9 L3 HB6
    rcases hq with rfl | ⟨rfl, h60⟩
    · go_wp2_with fail
      (with_reducible refine Hkn.out.mono ?_)
      rintro e V9 ⟨rfl, hbk⟩
      have HBK := hide (HB9.out.trans (hbk.mono HB9.out.size))
      clear hbk Hkn
      go_wp2_with fail
      go_ret
      exact ⟨rfl, HBK.out⟩
    · go_wp2_with fail
      (with_reducible refine Hkn.out.mono ?_)
      rintro e V9 ⟨rfl, hbk⟩
      have HBK := hide (HB9.out.trans (hbk.mono HB9.out.size))
      clear hbk Hkn
      go_wp2_with fail
      go_ret
      exact ⟨rfl, HBK.out⟩
  · rw [← hdl] at hr
    have L3 := hide (rtree _ hsz3 (HR.out.below HB6.out) hr)
    have HSC := hide (read_slim hr)
    clear hr hdl hsz3 HJ
    go_wp2_with fail
    (with_reducible refine L3.out.mono ?_)
    rintro e V4 ⟨v4, rfl, ht4, hb7⟩
    have hza := size_bare hba
    have hzb := size_bare hbb
    have hTz : (Ex.mk ⟨x.2.1, v0, [], y, z⟩ [a', b']).size = a.size + b.size + 1 := by rw [Ex.size, sizes, sizes, sizes]; omega
    have hfl : (Ex.mk ⟨x.2.1, v0, [], y, z⟩ [a', b']).flat 0 = a'.flat 0 ++ ((b'.flat 0).map (Nd.up a.size) ++ [⟨⟨x.2.1, v0, [], y, z⟩, [a.size - 1, a.size + b.size - 1]⟩]) := by rw [flat_pair, hza, hzb]
    have hlT : ((Ex.mk ⟨x.2.1, v0, [], y, z⟩ [a', b']).flat 0).length = a.size + b.size + 1 := by rw [Ex.flat_len, hTz]
    have hz4 := ht4.z (by rw [hlT]; omega) HSC.out
    obtain ⟨g, cp, rfl, hcp, hgB⟩ := ht4.form (by rw [hlT]; omega)
    rw [hlT] at hz4 hcp ⊢
    have hb8 := HB6.out.trans (hb7.mono HB6.out.size)
    have hb9 : Below w.heap.size w (V4.alloc (.cells #[.int .i64 0, .int .i64 0] 26)) := hb8.alloc hb8.size _
    have hV5 : Below V4.heap.size V4 (V4.alloc (.cells #[.int .i64 0, .int .i64 0] 26)) := (Below.refl _ V4).alloc (Nat.le_refl _) _
    have hz5 := hz4.below hV5
    have hbx : Below V2.heap.size V2 (V4.alloc (.cells #[.int .i64 0, .int .i64 0] 26)) := by
      have q1 := (((Below.refl _ V2).alloc (Nat.le_refl _) (.cells #[.int .i64 0, .int .i64 0] 26)).alloc (by simp) (.cells #[.string ⟨#[111, 114]⟩, .string ⟨#[97, 110, 100]⟩, .string ⟨#[61]⟩, .string ⟨#[60, 62]⟩, .string ⟨#[60]⟩, .string ⟨#[60, 61]⟩, .string ⟨#[62]⟩, .string ⟨#[62, 61]⟩, .string ⟨#[43]⟩, .string ⟨#[45]⟩, .string ⟨#[42]⟩, .string ⟨#[47]⟩] 9)).alloc (by simp; omega) (.cells #[.int .u8 4, .int .u8 5, .int .u8 7, .int .u8 8, .int .u8 9, .int .u8 10, .int .u8 11, .int .u8 12, .int .u8 13, .int .u8 14, .int .u8 15, .int .u8 16] 5)
      exact (q1.trans (hb7.mono q1.size)).trans (hV5.mono (q1.trans (hb7.mono q1.size)).size)
    have hza5 := HZ1.out.below hbx
    have hzb5 := HZ2.out.below hbx
    have hogx := bcell hV5 (bcell hb7 hog)
    have hcut : ((Ex.mk ⟨x.2.1, v0, [], y, z⟩ [a', b']).flat 0).map Nd.z = (a'.flat 0).map Nd.z ++ (((b'.flat 0).map (Nd.up a.size)).map Nd.z ++ [Nd.z ⟨⟨x.2.1, v0, [], y, z⟩, [a.size - 1, a.size + b.size - 1]⟩]) := by rw [hfl]; simp
    have hza6 : ((a'.flat 0).map Nd.z).length = a.size := by rw [List.length_map, Ex.flat_len, hza]
    have hpa := TrZ.part (lo := 0) (m := a.size) (c' := cp) hz5 (by rw [List.length_map, hlT]; omega)
    rw [List.drop_zero, hcut, List.take_append_of_le_length (by omega), List.take_of_length_le (by omega), Nat.zero_mul] at hpa
    have hsa := same_any _ hpa hza5
    rw [samesZ_bare hba] at hsa
    have HSA2 := hide hsa
    have HZ5 := hide hz5
    have HZB := hide hzb5
    have HB9 := hide hb9
    have HT4 := hide hcut
    have HHBB := hide hbb
    have Hbsz := hide hzb
    have Hza := hide hza
    have HSB' : Hid (Slim (b'.flat 0)) := hide (slim_bare hbb HSB.out)
    have c0 : ¬ cp = 0 := by omega
    have c1 : a.size ≤ cp := by omega
    have c2 : ((((a.size + b.size + 1 : Nat) : Int)) != (a.size : Int) + (b.size : Int) + 1) = false := by simp
    have c3 : decide ((60 : Int) < (a.size : Int) + (b.size : Int) + 1) = false := decide_eq_false (by omega)
    clear hb7 hb8 hb9 hV5 hz5 hbx hza5 hzb5 hz4 hcut hpa hsa ht4 hba hbb hza hzb hTz hfl hlT hza6 HZ1 HZ2 HB6 L3 HSC hog hsg hgB
    have c4 : a.size + b.size ≤ cp := by omega
    have c5 : ¬ cp = a.size := by omega
    go_wp2_with fail
    (with_reducible refine HSA2.out.mono ?_)
    rintro e V6 ⟨rfl, hb10⟩
    have hb11 := HB9.out.trans (hb10.mono HB9.out.size)
    have HZ6 := hide (HZ5.out.below hb10)
    have HZB6 := hide (HZB.out.below hb10)
    have hog6 := bcell hb10 hogx
    have HB11 := hide hb11
    clear hb10 hb11 HSA2 HZ5 HZB HB9 hogx
    obtain ⟨B, hBdef⟩ : ∃ B, V6.heap.size = B := ⟨_, rfl⟩
    have HBd := hide hBdef
    have HL0 : Hid (TrIs V6 B [] (.slice none 0 0) ((b'.flat 0).take 0) ∧ Below B V6 V6) := hide ⟨TrIs.nil _ _, Below.refl _ _⟩
    clear hBdef
    go_wp2_with fail
    simp only [Nat.add_sub_cancel_left]
    go_loopw [20, 129] (fun v20 v129 wr => ∃ (i : Nat) (oa : Option Addr) (oc : Nat), i ≤ b.size ∧ v129 = .int .i64 i ∧ v20 = .slice oa i oc ∧ Hid (TrIs wr B [] (.slice oa i oc) ((b'.flat 0).take i) ∧ Below B V6 wr)) (fun _ v129 _ => b.size - (intOf v129).toNat)
    case atStart => exact ⟨0, none, 0, Nat.zero_le _, rfl, rfl, HL0⟩
    case round =>
      obtain ⟨wo, rfl⟩ : ∃ wo : World, wo = wr := ⟨_, rfl⟩
      obtain ⟨i, oa, oc, hi, rfl, rfl, hq⟩ := hrel
      obtain ⟨hT, hBo⟩ := hq.out
      by_cases hil : i < b.size
      · have hBo' : Below V6.heap.size V6 wo := by rw [HBd.out]; exact hBo
        have hBs : B ≤ wo.heap.size := by rw [← HBd.out]; exact hBo'.size
        obtain ⟨n, hn1, hn2⟩ := pair_get (h := ⟨x.2.1, v0, [], y, z⟩) Hza.out (b := b') (i := i) (by rw [Hbsz.out]; exact hil)
        obtain ⟨kv, hna, hki⟩ := HZ6.out.get hn2
        rw [Nat.zero_add, Nat.add_mul] at hna
        have hna := hna.below hBo'
        obtain ⟨⟨op', ⟨vk, vn, vs⟩, nm, ln, cl⟩, kids⟩ := n
        obtain ⟨ka, kc, rfl, hkc⟩ := ints_up hki
        have hkl : kids.length ≤ 1000000 := HSB'.out _ (List.mem_of_getElem? hn1)
        obtain ⟨x0, x1, x2, x3, x4, x5, x6, x7⟩ := hna
        simp only [Nd.up, Nd.z] at x0 x1 x2 x3 x4 x5 x6 x7
        have Hkc := hide hkc
        have Hn1 := hide hn1
        have HT := hide hT
        have HBo := hide hBo'
        have j0 : (0 : Int) ≤ (i : Int) := by omega
        have j1 : (i : Int) < (b.size : Int) := by omega
        have j2 : decide ((i : Int) < (b.size : Int)) = true := decide_eq_true j1
        have hbx := lt_of_cell x0
        obtain ⟨W1, hW1⟩ : ∃ W1, wo.alloc (.cells #[.int .u8 op', .int .u8 vk, .int .i64 vn, .string ⟨vs.toArray⟩, .string ⟨nm.toArray⟩, .slice ka kids.length kc, .int .i64 ln, .int .i64 cl] 34) = W1 := ⟨_, rfl⟩
        have hp1 := heap_alloc0 wo (.cells #[.int .u8 op', .int .u8 vk, .int .i64 vn, .string ⟨vs.toArray⟩, .string ⟨nm.toArray⟩, .slice ka kids.length kc, .int .i64 ln, .int .i64 cl] 34)
        have hb1 : Below wo.heap.size wo W1 := by rw [← hW1]; exact (Below.refl _ wo).alloc (Nat.le_refl _) _
        have hz1 : W1.heap.size = wo.heap.size + 1 := by rw [← hW1]; simp
        rw [hW1] at hp1
        obtain ⟨n0, n1, n2, n3, n4, n5, n6, n7, nf⟩ := nodeCells hp1
        have HP1 := hide hp1
        have HB1 := hide hb1
        have Hz1 := hide hz1
        have HI : Hid (W1.ownsRow W1.heap.size 3 1 (.slice none 0 0) 0 (nums (kids.take 0)) ∧ Below W1.heap.size W1 W1) := hide ⟨World.ownsRow_nil _ _ _ _, Below.refl _ _⟩
        clear hq hT hBo hBo' hkc hki hn1 hn2 hp1 hb1 hz1 nf HL0
        go_wp2_with fail
        go_loopw [23, 136] (fun v23 v136 wx => ∃ (m : Nat) (la : Option Addr) (lc : Nat), m ≤ kids.length ∧ v136 = .int .i64 m ∧ v23 = .slice la m lc ∧ Hid (wx.ownsRow W1.heap.size 3 1 (.slice la m lc) m (nums (kids.take m)) ∧ Below W1.heap.size W1 wx)) (fun _ v136 _ => kids.length - (intOf v136).toNat)
        case atStart => exact ⟨0, none, 0, Nat.zero_le _, rfl, rfl, HI⟩
        case round =>
          obtain ⟨m, la, lc, hm, rfl, rfl, hq⟩ := hrel
          obtain ⟨hrow, hBx⟩ := hq.out
          clear n0 n1 n2 n3 n4 n5 n6 n7 x0 x1 x2 x3 x4 x5 x6 x7
          by_cases hml : m < kids.length
          · obtain ⟨bk, ok, ek, hkcell⟩ := Hkc.out m kids[m] (List.getElem?_eq_getElem hml)
            have hkcell := bcell hBx (bcell HB1.out (bcell HBo.out hkcell))
            have htk := List.take_succ_eq_append_getElem hml
            obtain ⟨v, hv⟩ : ∃ v, kids[m] = v := ⟨_, rfl⟩
            rw [hv] at hkcell htk
            subst ek
            have e5 := kid_lt Hn1.out (v := v) (by rw [← hv]; exact List.getElem_mem hml)
            rw [Hbsz.out] at e5
            have e6 : (0 : Int) ≤ (v : Int) := by omega
            have e7 : (v : Int) ≤ 60 := by omega
            have e3 : (0 : Int) ≤ (m : Int) := by omega
            have e4 : (m : Int) < (kids.length : Int) := by omega
            have e9 : decide ((m : Int) < (kids.length : Int)) = true := decide_eq_true e4
            have Hrow1 := hide (hrow.alloc (.cells #[.int .i64 (v : Int)] 3))
            have HN1 := hide (heap_alloc0 wr (.cells #[.int .i64 (v : Int)] 3))
            have HZ : Hid ((wr.alloc (.cells #[.int .i64 (v : Int)] 3)).heap.size = wr.heap.size + 1) := hide (by simp)
            have hsr := hBx.size
            have Hown := hide (row_own hrow)
            have Htk := hide htk
            have Hrow := hide hrow
            have HBx := hide hBx
            obtain ⟨i0, hi0, hz0, hz1, hz2⟩ := intinfo_parts
            have Hi0 := hide hi0
            have Hy0 := hide hz0
            have Hy1 := hide hz1
            have Hy2 := hide hz2
            clear hq hrow hBx htk hv hi0 hz0 hz1 hz2
            go_wp2_with ((refine wpList_append_lies _ rfl (.tmp 140) (.tmp 145) _ rfl W1.heap.size 3 i0 (.int .i64 0) 1 8 Tryz.underlying30 Hi0.out Hy0.out Hy1.out Hy2.out rfl (by decide) (.slice la m lc) m (nums (kids.take m)) rfl Hrow1.out ⟨wr.heap.size, 0, none⟩ 1 1 [.int .i64 (v : Int)] rfl rfl (World.news_of_block (cs := #[.int .i64 (v : Int)]) HN1.out) (by simp [Value.oneCell']) (by decide) (by unfold maxLen; omega) (by omega) (by rw [HZ.out]; omega) (wr.heap.size + 1) HZ.out ?_; intro g6 cap w6 hown6 hgrow6 hat6 hlt6))
            have hB6 := below_grown (v := .slice la m lc) (HBx.out.alloc HBx.out.size (.cells #[.int .i64 (v : Int)] 3)) hgrow6 Hown.out (by rw [HZ.out]; omega)
            rw [← nums_snoc, ← Htk.out] at hown6
            have HR6 : Hid (w6.ownsRow W1.heap.size 3 1 (.slice (some ⟨g6, 0, none⟩) (m + 1) cap) (m + 1) (nums (kids.take (m + 1))) ∧ Below W1.heap.size W1 w6) := hide ⟨hown6, hB6⟩
            clear hown6 hgrow6 hat6 hlt6 hB6 Hrow1 HN1 HZ Hrow HBx hsr Hown
            go_wp2_with fail
            go_roundw
            case rel => exact ⟨m + 1, some ⟨g6, 0, none⟩, cap, by omega, by go_num, rfl, HR6⟩
            case measure => simp [intOf]; omega
          · obtain rfl : m = kids.length := by omega
            have hp2 := (hBx.block _ (lt_of_heap HP1.out)).trans HP1.out
            obtain ⟨n0, n1, n2, n3, n4, n5, n6, n7, nf⟩ := nodeCells hp2
            have nf5 := nf 5
            have hpx : wo.heap.size < wr.heap.size := lt_of_heap hp2
            have e9 : decide ((kids.length : Int) < (kids.length : Int)) = false := by simp
            have hlen : ((b'.flat 0).take i).length = i := by rw [List.length_take, Ex.flat_len, Hbsz.out]; omega
            obtain ⟨kvs, hk1, hk2⟩ := HT.out
            have hbwx : Below wo.heap.size wo wr := HB1.out.trans (hBx.mono HB1.out.size)
            have hX1 : Below wo.heap.size wo (wr.setCell ⟨wo.heap.size, 5, none⟩ (.slice la kids.length lc)) := hbwx.setCell (Nat.le_refl _) _
            have hX2 : Below wo.heap.size wo ((wr.setCell ⟨wo.heap.size, 5, none⟩ (.slice la kids.length lc)).alloc (.cells #[.int .u8 op', .int .u8 vk, .int .i64 vn, .string ⟨vs.toArray⟩, .string ⟨nm.toArray⟩, .slice la kids.length lc, .int .i64 ln, .int .i64 cl] 34)) := hX1.alloc hX1.size _
            have hkr : ((wr.setCell ⟨wo.heap.size, 5, none⟩ (.slice la kids.length lc)).alloc (.cells #[.int .u8 op', .int .u8 vk, .int .i64 vn, .string ⟨vs.toArray⟩, .string ⟨nm.toArray⟩, .slice la kids.length lc, .int .i64 ln, .int .i64 cl] 34)).ownsRow wo.heap.size 3 1 (.slice la kids.length lc) kids.length (nums kids) := by
              rw [List.take_length] at hrow
              refine owns_base ((owns_only hrow (only_setCell wr wo.heap.size 5 _) fun g e hm => ?_).alloc _) (by rw [Hz1.out]; omega)
              have := row_own hrow g e
              rw [Hz1.out] at this
              simp at hm
              omega
            have Hrow2 := hide (show ((wr.setCell ⟨wo.heap.size, 5, none⟩ (.slice la kids.length lc)).alloc (.cells #[.int .u8 op', .int .u8 vk, .int .i64 vn, .string ⟨vs.toArray⟩, .string ⟨nm.toArray⟩, .slice la kids.length lc, .int .i64 ln, .int .i64 cl] 34)).ownsRow B 34 8 (.slice oa i oc) i (nflat kvs ((b'.flat 0).take i)) by
              have := owns_below hk1 hX2
              rw [hlen] at this
              exact this)
            have HN2 : Hid (((wr.setCell ⟨wo.heap.size, 5, none⟩ (.slice la kids.length lc)).alloc (.cells #[.int .u8 op', .int .u8 vk, .int .i64 vn, .string ⟨vs.toArray⟩, .string ⟨nm.toArray⟩, .slice la kids.length lc, .int .i64 ln, .int .i64 cl] 34)).heap[wr.heap.size]? = some (.cells #[.int .u8 op', .int .u8 vk, .int .i64 vn, .string ⟨vs.toArray⟩, .string ⟨nm.toArray⟩, .slice la kids.length lc, .int .i64 ln, .int .i64 cl] 34 (0, 0))) := hide (by
              have := heap_alloc0 (wr.setCell ⟨wo.heap.size, 5, none⟩ (.slice la kids.length lc)) (.cells #[.int .u8 op', .int .u8 vk, .int .i64 vn, .string ⟨vs.toArray⟩, .string ⟨nm.toArray⟩, .slice la kids.length lc, .int .i64 ln, .int .i64 cl] 34)
              simpa [World.setCell] using this)
            have HZ2 : Hid (((wr.setCell ⟨wo.heap.size, 5, none⟩ (.slice la kids.length lc)).alloc (.cells #[.int .u8 op', .int .u8 vk, .int .i64 vn, .string ⟨vs.toArray⟩, .string ⟨nm.toArray⟩, .slice la kids.length lc, .int .i64 ln, .int .i64 cl] 34)).heap.size = wr.heap.size + 1) := hide (by simp [World.setCell])
            have Hownb := hide (row_own Hrow2.out)
            have Hk1 := hide hk1
            have Hk2 := hide hk2
            have Hkr := hide hkr
            have HX2 := hide hX2
            have Hlen := hide hlen
            have hsw := hbwx.size
            obtain ⟨i1', hi0, hz0, hz1, hz2⟩ := nodeinfo_parts
            have Hi0 := hide hi0
            have Hy0 := hide hz0
            have Hy1 := hide hz1
            have Hy2 := hide hz2
            clear hq hrow hBx hp2 nf hlen hk1 hk2 hbwx hX1 hX2 hkr hi0 hz0 hz1 hz2 hml
            go_wp2_with ((refine wpList_append_lies _ rfl (.tmp 150) (.tmp 152) _ rfl B 34 i1' (.agg #[.int .u8 0, .int .u8 0, .int .i64 0, .string ⟨#[]⟩, .string ⟨#[]⟩, .slice none 0 0, .int .i64 0, .int .i64 0]) 8 96 Tryz.underlying24 Hi0.out Hy0.out Hy1.out Hy2.out rfl (by decide) (.slice oa i oc) i (nflat kvs ((b'.flat 0).take i)) rfl Hrow2.out ⟨wr.heap.size, 0, none⟩ 1 1 [.int .u8 op', .int .u8 vk, .int .i64 vn, .string ⟨vs.toArray⟩, .string ⟨nm.toArray⟩, .slice la kids.length lc, .int .i64 ln, .int .i64 cl] rfl rfl (World.news_of_block (cs := #[.int .u8 op', .int .u8 vk, .int .i64 vn, .string ⟨vs.toArray⟩, .string ⟨nm.toArray⟩, .slice la kids.length lc, .int .i64 ln, .int .i64 cl]) HN2.out) (by simp [Value.oneCell']) (by decide) (by unfold maxLen; omega) (by omega) (by rw [HZ2.out]; omega) (wr.heap.size + 1) HZ2.out ?_; intro g6 cap w6 hown6 hgrow6 hat6 hlt6))
            have hT6 := tris_lay (n := ⟨⟨op', (vk, vn, vs), nm, ln, cl⟩, kids⟩) Hk1.out Hk2.out HX2.out Hkr.out hBs hgrow6 (by rw [Hlen.out]; exact hown6)
            have hB6 : Below B V6 w6 := by
              have h7 : Below B wo w6 := below_grown (v := .slice oa i oc) (HX2.out.mono hBs) hgrow6 Hownb.out (by rw [HZ2.out]; omega)
              exact (HBd.out ▸ HBo.out).trans h7
            rw [show (b'.flat 0).take i ++ [⟨⟨op', (vk, vn, vs), nm, ln, cl⟩, kids⟩] = (b'.flat 0).take (i + 1) by rw [List.take_add_one, Hn1.out]; rfl] at hT6
            have HT6 : Hid (TrIs w6 B [] (.slice (some ⟨g6, 0, none⟩) (i + 1) cap) ((b'.flat 0).take (i + 1)) ∧ Below B V6 w6) := hide ⟨hT6, hB6⟩
            clear hown6 hgrow6 hat6 hlt6 hB6 hT6 Hrow2 HN2 HZ2 Hownb Hk1 Hk2 Hkr HX2 hsw n0 n1 n2 n3 n4 n5 n6 n7 nf5
            go_wp2_with fail
            go_roundw
            case rel => exact ⟨i + 1, some ⟨g6, 0, none⟩, cap, by omega, by go_num, rfl, HT6⟩
            case measure => simp [intOf]; omega
      · obtain rfl : i = b.size := by omega
        have hBo' : Below V6.heap.size V6 wo := by rw [HBd.out]; exact hBo
        have hTz : TrZ wo (.slice oa b.size oc) ((b'.flat 0).map Nd.z) := by
          have h1 := hT
          rw [List.take_of_length_le (by rw [Ex.flat_len, Hbsz.out]; omega)] at h1
          exact h1.z (by rw [Ex.flat_len, Hbsz.out]; omega) HSB'.out
        have hB := HB11.out.trans (hBo'.mono HB11.out.size)
        have hlast := pair_last (h := ⟨x.2.1, v0, [], y, z⟩) Hza.out Hbsz.out
        obtain ⟨kv, hna, hki⟩ := HZ6.out.get hlast
        rw [Nat.zero_add] at hna
        have hna := hna.below hBo'
        obtain ⟨hkl, ka, kc, rfl, hkc⟩ := hki
        obtain ⟨b0, o0, e0, hc0⟩ := hkc 0 (by simp [Nd.z])
        obtain ⟨b1, o1, e1, hc1⟩ := hkc 1 (by simp [Nd.z])
        rw [e0] at e1
        injection e1 with e1
        injection e1 with e1 e2
        subst e1 e2 e0
        have hap := a.size_pos
        have hc0 : V6.cell? ⟨b0, o0, none⟩ = some (.int .i64 ((a.size : Int) - 1)) := by
          have h1 : V6.cell? ⟨b0, o0, none⟩ = some (.int .i64 ((a.size - 1 : Nat) : Int)) := hc0
          rw [h1]
          congr 2
          omega
        have hc1 : V6.cell? ⟨b0, o0 + 1, none⟩ = some (.int .i64 ((a.size : Int) + (b.size : Int) - 1)) := by
          have h1 : V6.cell? ⟨b0, o0 + 1, none⟩ = some (.int .i64 ((a.size + b.size - 1 : Nat) : Int)) := hc1
          rw [h1]
          congr 2
          omega
        obtain ⟨x0, x1, x2, x3, x4, y5, x6, x7⟩ := hna
        have x5 : wo.cell? ⟨g, (a.size + b.size) * 8 + 5, none⟩ = some (.slice (some ⟨b0, o0, none⟩) 2 kc) := y5
        clear y5
        simp only [Nd.z, v0] at x0 x1 x2 x3 x4 x6 x7
        obtain ⟨W1, hW1⟩ : ∃ W1, (wo.alloc (.cells #[.int .u8 x.2.1, .int .u8 0, .int .i64 0, .string ⟨#[]⟩, .string ⟨#[]⟩, .slice (some ⟨b0, o0, none⟩) 2 kc, .int .i64 y, .int .i64 z] 34)).drew = W1 := ⟨_, rfl⟩
        have hp1 : (wo.alloc (.cells #[.int .u8 x.2.1, .int .u8 0, .int .i64 0, .string ⟨#[]⟩, .string ⟨#[]⟩, .slice (some ⟨b0, o0, none⟩) 2 kc, .int .i64 y, .int .i64 z] 34)).drew.heap[wo.heap.size]? = some (.cells #[.int .u8 x.2.1, .int .u8 0, .int .i64 0, .string ⟨#[]⟩, .string ⟨#[]⟩, .slice (some ⟨b0, o0, none⟩) 2 kc, .int .i64 y, .int .i64 z] 34 (0, 0)) := heap_alloc0 wo (.cells #[.int .u8 x.2.1, .int .u8 0, .int .i64 0, .string ⟨#[]⟩, .string ⟨#[]⟩, .slice (some ⟨b0, o0, none⟩) 2 kc, .int .i64 y, .int .i64 z] 34)
        have hb1 : Below wo.heap.size wo W1 := by rw [← hW1]; exact ((Below.refl _ wo).alloc (Nat.le_refl _) _).drew
        rw [hW1] at hp1
        have hlb : ((b.flat 0).map Nd.z).length = b.size := by rw [List.length_map, Ex.flat_len]
        have hsame := same_any W1 (hTz.below hb1) ((HZB6.out.below hBo').below hb1)
        rw [samesZ_bare HHBB.out] at hsame
        have HSM := hide hsame
        have HP1 := hide hp1
        have hm0 := bcell hb1 (bcell hBo' hc0)
        have hm1 := bcell hb1 (bcell hBo' hc1)
        have hmg := bcell hb1 (bcell hBo' hog6)
        obtain ⟨m0, _, _, _, _, m5, _, _, _⟩ := nodeCells hp1
        have q0 : (((a.size : Int) - 1) == ((a.size : Int) - 1)) = true := by simp
        have q1 : (((a.size : Int) + (b.size : Int) - 1) == ((a.size : Int) + (b.size : Int) - 1)) = true := by simp
        have w1 : IntKind.i64.wrap ((a.size : Int) - 1) = (a.size : Int) - 1 := IntWalk.i64_in _ (by omega)
        have w2 : IntKind.i64.wrap ((a.size : Int) + (b.size : Int) + 1 - 2) = (a.size : Int) + (b.size : Int) - 1 := by rw [IntWalk.i64_in _ (by omega)]; omega
        have HC0 := hide (bcell hb1 (bcell hBo' hc0))
        have HC1 := hide (bcell hb1 (bcell hBo' hc1))
        have HOG := hide (bcell hb1 (bcell hBo' hog6))
        have HB1 := hide (hB.trans (hb1.mono hB.size))
        have hKN := fun V (hV : Below W1.heap.size W1 V) => hide (known07 V (HR.out.below (HB1.out.trans (hV.mono HB1.out.size))))
        have j2 : decide ((b.size : Int) < (b.size : Int)) = false := by simp
        have hbx := lt_of_cell x0
        clear hil hq hlast hkc hBo hBo' hT HL0 hTz hp1 hb1 hlb hsame hc0 hc1 hog6 hkl hB
        go_wp2_with fail
        go_region_held3 (fun V => V.cell? ⟨wo.heap.size, 0, none⟩ = some (.int .u8 x.2.1) ∧ V.cell? ⟨wo.heap.size, 5, none⟩ = some (.slice (some ⟨b0, o0, none⟩) 2 kc) ∧ V.cell? ⟨V2.heap.size + 1 + 1, k, none⟩ = some (.int .u8 x.2.1) ∧ V.cell? ⟨b0, o0, none⟩ = some (.int .i64 ((a.size : Int) - 1)) ∧ V.cell? ⟨b0, o0 + 1, none⟩ = some (.int .i64 ((a.size : Int) + (b.size : Int) - 1))) (go_keep)
          (first
          | (go_at_call 17; (with_reducible refine HSM.out.mono ?_); rintro e V7 ⟨rfl, hb12⟩; have hp7 := (hb12.block _ (lt_of_heap HP1.out)).trans HP1.out; obtain ⟨n0, n1, n2, n3, n4, n5, n6, n7, nf⟩ := nodeCells hp7; have hk0 := bcell hb12 HC0.out; have hk1 := bcell hb12 HC1.out; have hkg := bcell hb12 HOG.out; have HKN := hKN V7 hb12; have HB7 := hide (HB1.out.trans (hb12.mono HB1.out.size)); clear hb12 hp7 nf)
          | (go_at_call 11; (with_reducible refine HKN.out.mono ?_); rintro e V9 ⟨rfl, hb13⟩; have r0 := bcell hb13 n0; have r5 := bcell hb13 n5; have rg := bcell hb13 hkg; have rk0 := bcell hb13 hk0; have rk1 := bcell hb13 hk1; have HB9 := hide (HB7.out.trans (hb13.mono HB7.out.size)); clear hb13))
        go_wp2
        go_ret
        exact ⟨rfl, HB9.out⟩
set_option maxRecDepth 100000 in
set_option maxHeartbeats 16000000 in
theorem joins_walk (s t : ByteArray) (op : Int) (h0 : 0 ≤ op) (h1 : op ≤ 255) (w : World) (hR : Rd w) :
    Calls Tryz.prog 6 #[.string s, .string t, .int .u8 op] w fun e w' => e = .returned (.bool true) ∧ Below w.heap.size w w' := by
  by_cases hs : s.size ≤ 300
  · by_cases ht : t.size ≤ 300
    · cases ha : readL (dl s) with
      | error p =>
        obtain ⟨⟨x, y⟩, q⟩ := p
        have hq := readL_err ha
        have hq1 : (q != 0) = true := by simpa using hq
        have i1 : decide ((300 : Int) < (s.size : Int)) = false := by simp; omega
        have i2 : decide ((300 : Int) < (t.size : Int)) = false := by simp; omega
        have L1 := hide (rnone w (by omega) hR ha)
        have L2 := fun V hV => hide (xread_some t V (by omega) hV)
        have HR := hide hR
        clear hR ha hq
        go_enter Tryz.func6, Tryz.ntmps6
        go_wp2_with fail
        (with_reducible refine L1.out.mono ?_)
        rintro e V1 ⟨rfl, hb1⟩
        have hb2 : Below w.heap.size w (V1.alloc (.cells #[.int .i64 x, .int .i64 y] 26)) := hb1.alloc hb1.size _
        have HB2 := hide hb2
        clear hb1 hb2 L1
        go_wp2_with fail
        (with_reducible refine (L2 _ (HR.out.below HB2.out)).out.mono ?_)
        rintro e V2 ⟨v2, x2, y2, q2, rfl, hb3⟩
        have hb4 := HB2.out.trans (hb3.mono HB2.out.size)
        have hb5 : Below w.heap.size w (V2.alloc (.cells #[.int .i64 x2, .int .i64 y2] 26)) := hb4.alloc hb4.size _
        have Hkn := hide (known07 _ (HR.out.below hb5))
        have HB5 := hide hb5
        clear hb3 hb4 hb5 HB2 L2
        go_wp2_with fail
        (with_reducible refine Hkn.out.mono ?_)
        rintro e V9 ⟨rfl, hb9⟩
        have HB9 := hide (HB5.out.trans (hb9.mono HB5.out.size))
        clear hb9 Hkn
        go_wp2_with fail
        go_ret
        exact ⟨rfl, HB9.out⟩
      | ok a =>
        cases hb : readL (dl t) with
        | error p =>
          obtain ⟨⟨x, y⟩, q⟩ := p
          have hq := readL_err hb
          have hq1 : (q != 0) = true := by simpa using hq
          have i1 : decide ((300 : Int) < (s.size : Int)) = false := by simp; omega
          have i2 : decide ((300 : Int) < (t.size : Int)) = false := by simp; omega
          have L1 := hide (rtree w (by omega) hR ha)
          have L2 := fun V hV => hide (rnone V (by omega) hV hb)
          have HR := hide hR
          clear hR ha hb hq
          go_enter Tryz.func6, Tryz.ntmps6
          go_wp2_with fail
          (with_reducible refine L1.out.mono ?_)
          rintro e V1 ⟨v1, rfl, ht1, hb1⟩
          obtain ⟨va, vc, rfl⟩ := ht1.slice
          have hb2 : Below w.heap.size w (V1.alloc (.cells #[.int .i64 0, .int .i64 0] 26)) := hb1.alloc hb1.size _
          have HB2 := hide hb2
          clear hb1 hb2 L1 ht1
          go_wp2_with fail
          (with_reducible refine (L2 _ (HR.out.below HB2.out)).out.mono ?_)
          rintro e V2 ⟨rfl, hb3⟩
          have hb4 := HB2.out.trans (hb3.mono HB2.out.size)
          have hb5 : Below w.heap.size w (V2.alloc (.cells #[.int .i64 x, .int .i64 y] 26)) := hb4.alloc hb4.size _
          have Hkn := hide (known07 _ (HR.out.below hb5))
          have HB5 := hide hb5
          clear hb3 hb4 hb5 HB2 L2
          go_wp2_with fail
          (with_reducible refine Hkn.out.mono ?_)
          rintro e V9 ⟨rfl, hb9⟩
          have HB9 := hide (HB5.out.trans (hb9.mono HB5.out.size))
          clear hb9 Hkn
          go_wp2_with fail
          go_ret
          exact ⟨rfl, HB9.out⟩
        | ok b => exact joins_none s t op h0 h1 w hR hs ht ha hb
    · have i1 : decide ((300 : Int) < (s.size : Int)) = false := by simp; omega
      have i2 : decide ((300 : Int) < (t.size : Int)) = true := by simp; omega
      have Hkn := hide (known07 w hR)
      clear hR hs ht
      go_enter Tryz.func6, Tryz.ntmps6
      go_wp2_with fail
      (with_reducible refine Hkn.out.mono ?_)
      rintro e V9 ⟨rfl, hb9⟩
      have HB9 := hide hb9
      clear hb9 Hkn
      go_wp2_with fail
      go_ret
      exact ⟨rfl, HB9.out⟩
  · have i1 : decide ((300 : Int) < (s.size : Int)) = true := by simp; omega
    have Hkn := hide (known07 w hR)
    clear hR hs
    go_enter Tryz.func6, Tryz.ntmps6
    go_wp2_with fail
    (with_reducible refine Hkn.out.mono ?_)
    rintro e V9 ⟨rfl, hb9⟩
    have HB9 := hide hb9
    clear hb9 Hkn
    go_wp2_with fail
    go_ret
    exact ⟨rfl, HB9.out⟩
end Go.Proofs.YtkjndabbkfbkaaaGreatDoor
