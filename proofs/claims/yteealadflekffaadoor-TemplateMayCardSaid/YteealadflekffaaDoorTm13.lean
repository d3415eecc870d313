/- witanlaw04.great: more than is looked at? -/
import Derived.Test.YteealadflekffaaDoorTm9
namespace Go.Proofs.YteealadflekffaaDoor
open Go Go.RowKit Go.Lib

/-- Is a template more than is looked at? -/
def greatT (t : Tpl) : Bool := decide (20 < t.s.length) || decide (100 < t.name.size) || t.s.any fun s => decide (100 < s.n.size)
/-- Are templates more than is looked at? -/
def greatB (l : List Tpl) : Bool := l.any greatT || decide (30 < l.length)
theorem greatB_yes {l : List Tpl} {k : Nat} (hk : k < l.length) (h : greatT l[k] = true) : greatB l = true := by
  unfold greatB
  rw [List.any_eq_true.2 ⟨_, List.getElem_mem hk, h⟩]
  rfl
theorem greatB_end {l : List Tpl} (h : ∀ j (hj : j < l.length), greatT l[j] = false) : greatB l = decide (30 < l.length) := by
  unfold greatB
  rw [List.any_eq_false.2 fun t ht => by obtain ⟨j, hj, rfl⟩ := List.getElem_of_mem ht; simp [h j hj]]
  rfl
theorem greatT_slot {t : Tpl} {m : Nat} (hm : m < t.s.length) (h : 100 < t.s[m].n.size) : greatT t = true := by
  unfold greatT
  rw [List.any_eq_true.2 ⟨_, List.getElem_mem hm, decide_eq_true h⟩]
  simp
theorem greatT_not {t : Tpl} (h1 : t.s.length ≤ 20) (h2 : t.name.size ≤ 100) (h3 : ∀ m (hm : m < t.s.length), t.s[m].n.size ≤ 100) : greatT t = false := by
  unfold greatT
  rw [decide_eq_false (by omega), decide_eq_false (by omega), List.any_eq_false.2 fun s hs => by obtain ⟨j, hj, rfl⟩ := List.getElem_of_mem hs; have := h3 j hj; simp; omega]
  rfl

set_option maxRecDepth 100000 in
set_option maxHeartbeats 4000000 in
theorem great_any (a : Option Addr) (c : Nat) (l : List Tpl) (w : World) (h : TplsIs w a c l) :
    Calls Tryd.prog 8 #[.slice a l.length c] w fun e w' => e = .returned (.bool (greatB l)) ∧ w = w' := by
  have hlen := h.1.len
  have H := hide h
  clear h
  obtain ⟨g, hg⟩ : ∃ g, greatB l = g := ⟨_, rfl⟩
  have Hg := hide hg
  rw [hg]
  clear hg
  go_enter Tryd.func8, Tryd.ntmps8
  go_wp2
  go_loop [7] (fun vi => ∃ k : Nat, k ≤ l.length ∧ vi = .int .i64 k ∧ Hid (∀ j (h : j < l.length), j < k → greatT l[j] = false)) (fun i => l.length - (intOf i).toNat)
  case atStart => exact ⟨0, Nat.zero_le _, rfl, fun j h hj => absurd hj (by omega)⟩
  case round =>
    obtain ⟨k, hk, rfl, hq⟩ := hrel
    by_cases hlk : k < l.length
    · obtain ⟨b, off, rfl, c0, c1⟩ := H.out.at hlk
      have ht := H.out.2 _ (List.getElem_mem hlk)
      have hn0 := ht.2
      have hl0 := ht.1.1.len
      obtain ⟨nm, hnm⟩ : ∃ nm, l[k].name = nm := ⟨_, rfl⟩
      obtain ⟨sl, hsl⟩ : ∃ sl, l[k].s = sl := ⟨_, rfl⟩
      obtain ⟨sa, hsa⟩ : ∃ sa, l[k].a = sa := ⟨_, rfl⟩
      obtain ⟨sc, hsc⟩ : ∃ sc, l[k].c = sc := ⟨_, rfl⟩
      have hs := ht.1
      rw [hsa, hsc, hsl] at hs
      rw [hnm] at c0 hn0
      rw [hsl, hsa, hsc] at c1
      rw [hsl] at hl0
      have Hs := hide hs
      have Hnm := hide hnm
      have Hsl := hide hsl
      clear ht hnm hsl hsa hsc hs
      by_cases h20 : 20 < sl.length
      · have d1 : (20 : Int) < sl.length := by omega
        have Hy := hide (greatB_yes hlk (by unfold greatT; rw [Hsl.out, decide_eq_true h20]; rfl))
        clear h20
        go_wp2
        go_ret
        exact ⟨by rw [← Hg.out, Hy.out]; rfl, rfl⟩
      · have d1 : (sl.length : Int) ≤ 20 := by omega
        have d1' : decide ((20 : Int) < sl.length) = false := by simp; omega
        by_cases h100 : 100 < nm.size
        · have d2 : (100 : Int) < nm.size := by omega
          have Hy := hide (greatB_yes hlk (by unfold greatT; rw [Hnm.out, decide_eq_true h100]; simp))
          clear h20 h100
          go_wp2
          go_ret
          exact ⟨by rw [← Hg.out, Hy.out]; rfl, rfl⟩
        · have d2 : (nm.size : Int) ≤ 100 := by omega
          have d2' : decide ((100 : Int) < nm.size) = false := by simp; omega
          have H20 := hide h20
          have H100 := hide h100
          clear h20 h100
          go_wp2
          go_loop [32] (fun vi => ∃ m : Nat, m ≤ sl.length ∧ vi = .int .i64 m ∧ Hid (∀ j (h : j < sl.length), j < m → sl[j].n.size ≤ 100)) (fun i => sl.length - (intOf i).toNat)
          case atStart => exact ⟨0, Nat.zero_le _, rfl, fun j h hj => absurd hj (by omega)⟩
          case round =>
            obtain ⟨m, hm, rfl, hqm⟩ := hrel
            by_cases hlm : m < sl.length
            · obtain ⟨sb, soff, rfl, s0, s1⟩ := Hs.out.at hlm
              obtain ⟨sn, hsn⟩ : ∃ sn, sl[m].n = sn := ⟨_, rfl⟩
              have hsz := (Hs.out.2 _ (List.getElem_mem hlm)).2.2
              rw [hsn] at s0 hsz
              have Hsn := hide hsn
              clear hsn s1
              by_cases hb : 100 < sn.size
              · have d3 : (100 : Int) < sn.size := by omega
                have Hy := hide (greatB_yes hlk (greatT_slot (m := m) (by rw [Hsl.out]; exact hlm) (by simp only [Hsl.out]; rw [Hsn.out]; exact hb)))
                clear hb
                go_wp2
                go_ret
                exact ⟨by rw [← Hg.out, Hy.out]; rfl, rfl⟩
              · have d3 : decide ((100 : Int) < sn.size) = false := by simp; omega
                have Hyes : Hid (∀ j (h : j < sl.length), j < m + 1 → sl[j].n.size ≤ 100) := fun j h hj => by
                  rcases Nat.lt_or_ge j m with q | q
                  · exact hqm.out j h q
                  · obtain rfl : j = m := by omega
                    rw [Hsn.out]; omega
                clear hb
                go_wp2
                go_round
                case rel => exact ⟨m + 1, by omega, by go_num, Hyes⟩
                case measure => simp [intOf]; omega
            · obtain rfl : m = sl.length := by omega
              have Hno : Hid (greatT l[k] = false) := greatT_not (by rw [Hsl.out]; have := H20.out; omega) (by rw [Hnm.out]; have := H100.out; omega) (fun j hj => by
                simp only [Hsl.out] at hj ⊢
                exact hqm.out j hj hj)
              have Hs2 := hide (ahead_succ (p := greatT) hq.out hlk Hno.out)
              go_wp2
              go_round
              case rel => exact ⟨k + 1, by omega, by go_num, Hs2.out⟩
              case measure => simp [intOf]; omega
    · obtain rfl : k = l.length := by omega
      have He := hide (greatB_end fun j h => hq.out j h h)
      by_cases h30 : 30 < l.length
      · have d : (30 : Int) < l.length := by omega
        have Hd := hide (decide_eq_true h30)
        clear h30
        go_wp2
        go_ret
        exact ⟨by rw [← Hg.out, He.out, Hd.out]; rfl, rfl⟩
      · have d : decide ((30 : Int) < l.length) = false := by simp; omega
        have Hd := hide (decide_eq_false h30)
        clear h30
        go_wp2
        go_ret
        exact ⟨by rw [← Hg.out, He.out, Hd.out]; rfl, rfl⟩
end Go.Proofs.YteealadflekffaaDoor
