/- The document's words that are no names; its names. -/
import Derived.Test.YteealadflekffaaDoorTm8
namespace Go.Proofs.YteealadflekffaaDoor
open Go Go.RowKit Go.Lib

abbrev kw0 : ByteArray := ⟨#[116, 114, 117, 101]⟩
abbrev kw1 : ByteArray := ⟨#[102, 97, 108, 115, 101]⟩
abbrev kw2 : ByteArray := ⟨#[110, 117, 108, 108]⟩
abbrev kw3 : ByteArray := ⟨#[97, 110, 100]⟩
abbrev kw4 : ByteArray := ⟨#[111, 114]⟩
abbrev kw5 : ByteArray := ⟨#[110, 111, 116]⟩
abbrev kw6 : ByteArray := ⟨#[105, 102]⟩
abbrev kw7 : ByteArray := ⟨#[97, 98, 115]⟩
abbrev kw8 : ByteArray := ⟨#[109, 105, 110]⟩
abbrev kw9 : ByteArray := ⟨#[109, 97, 120]⟩
abbrev kw10 : ByteArray := ⟨#[109, 111, 100]⟩
abbrev kw11 : ByteArray := ⟨#[108, 101, 110, 103, 116, 104]⟩
abbrev kw12 : ByteArray := ⟨#[117, 112, 112, 101, 114]⟩
abbrev kw13 : ByteArray := ⟨#[99, 111, 110, 116, 97, 105, 110, 115]⟩
abbrev kw14 : ByteArray := ⟨#[115, 116, 97, 114, 116, 115]⟩
abbrev kw15 : ByteArray := ⟨#[116, 101, 109, 112, 108, 97, 116, 101]⟩
abbrev kw16 : ByteArray := ⟨#[114, 117, 108, 101]⟩
abbrev kw17 : ByteArray := ⟨#[119, 104, 101, 110]⟩
abbrev kw18 : ByteArray := ⟨#[116, 104, 101, 110]⟩
abbrev kw19 : ByteArray := ⟨#[101, 110, 100]⟩
abbrev kw20 : ByteArray := ⟨#[101, 120, 105, 115, 116, 115]⟩
abbrev kw21 : ByteArray := ⟨#[116, 101, 115, 116]⟩
abbrev kw22 : ByteArray := ⟨#[97, 115, 115, 101, 114, 116]⟩
abbrev kw23 : ByteArray := ⟨#[108, 111, 103, 105, 99, 97, 108]⟩
abbrev kw24 : ByteArray := ⟨#[109, 111, 100, 105, 102, 121]⟩
abbrev kw25 : ByteArray := ⟨#[114, 101, 116, 114, 97, 99, 116]⟩
abbrev kw26 : ByteArray := ⟨#[104, 97, 108, 116]⟩
abbrev kw27 : ByteArray := ⟨#[116, 97, 98, 108, 101]⟩
abbrev kw28 : ByteArray := ⟨#[105, 110]⟩
abbrev kw29 : ByteArray := ⟨#[111, 117, 116]⟩
abbrev kw30 : ByteArray := ⟨#[114, 111, 119]⟩
def keptW : List ByteArray := [kw0, kw1, kw2, kw3, kw4, kw5, kw6, kw7, kw8, kw9, kw10, kw11, kw12, kw13, kw14, kw15, kw16, kw17, kw18, kw19, kw20, kw21, kw22, kw23, kw24, kw25, kw26, kw27, kw28, kw29, kw30]
theorem kept_fields : Lib.fields keptS.data.toList = keptW.map fun b => b.data.toList := by decide +kernel
theorem keptB_eq (s : ByteArray) : keptB s = keptW.any fun y => decide (s = y) := by
  unfold keptB
  rw [kept_fields, Bool.eq_iff_iff, List.contains_iff_mem, List.mem_map, List.any_eq_true]
  constructor
  · rintro ⟨y, hy, e⟩
    exact ⟨y, hy, decide_eq_true (by cases s; cases y; simp at e; rw [e])⟩
  · rintro ⟨y, hy, e⟩
    exact ⟨y, hy, by rw [of_decide_eq_true e]⟩

theorem ne_list {s y : ByteArray} {l : List UInt8} (h : s ≠ y) (hl : y.data.toList = l) : (s.toList == l) = false := by
  simp only [beq_eq_false_iff_ne, ne_eq]
  intro e
  exact h (bytes_inj (by rw [e, ByteArray.toList_eq, hl]))

set_option maxRecDepth 100000 in
set_option maxHeartbeats 4000000 in
theorem rkept_no (s : ByteArray) (w : World) (h0 : (s.toList == [116, 114, 117, 101]) = false) (h1 : (s.toList == [102, 97, 108, 115, 101]) = false) (h2 : (s.toList == [110, 117, 108, 108]) = false) (h3 : (s.toList == [97, 110, 100]) = false) (h4 : (s.toList == [111, 114]) = false) (h5 : (s.toList == [110, 111, 116]) = false) (h6 : (s.toList == [105, 102]) = false) (h7 : (s.toList == [97, 98, 115]) = false) (h8 : (s.toList == [109, 105, 110]) = false) (h9 : (s.toList == [109, 97, 120]) = false) (h10 : (s.toList == [109, 111, 100]) = false) (h11 : (s.toList == [108, 101, 110, 103, 116, 104]) = false) (h12 : (s.toList == [117, 112, 112, 101, 114]) = false) (h13 : (s.toList == [99, 111, 110, 116, 97, 105, 110, 115]) = false) (h14 : (s.toList == [115, 116, 97, 114, 116, 115]) = false) (h15 : (s.toList == [116, 101, 109, 112, 108, 97, 116, 101]) = false) (h16 : (s.toList == [114, 117, 108, 101]) = false) (h17 : (s.toList == [119, 104, 101, 110]) = false) (h18 : (s.toList == [116, 104, 101, 110]) = false) (h19 : (s.toList == [101, 110, 100]) = false) (h20 : (s.toList == [101, 120, 105, 115, 116, 115]) = false) (h21 : (s.toList == [116, 101, 115, 116]) = false) (h22 : (s.toList == [97, 115, 115, 101, 114, 116]) = false) (h23 : (s.toList == [108, 111, 103, 105, 99, 97, 108]) = false) (h24 : (s.toList == [109, 111, 100, 105, 102, 121]) = false) (h25 : (s.toList == [114, 101, 116, 114, 97, 99, 116]) = false) (h26 : (s.toList == [104, 97, 108, 116]) = false) (h27 : (s.toList == [116, 97, 98, 108, 101]) = false) (h28 : (s.toList == [105, 110]) = false) (h29 : (s.toList == [111, 117, 116]) = false) (h30 : (s.toList == [114, 111, 119]) = false) :
    Calls Tryd.prog 40 #[.string s] w fun e w' => e = .returned (.bool false) ∧ w = w' := by
  go_enter Tryd.func40, Tryd.ntmps40
  go_wp2
  go_ret
  exact ⟨rfl, rfl⟩

set_option maxRecDepth 100000 in
set_option maxHeartbeats 8000000 in
theorem rkept_yes (s : ByteArray) (w : World) (h : s ∈ keptW) :
    Calls Tryd.prog 40 #[.string s] w fun e w' => e = .returned (.bool true) ∧ w = w' := by
  simp only [keptW, List.mem_cons, List.not_mem_nil, or_false] at h
  rcases h with rfl | rfl | rfl | rfl | rfl | rfl | rfl | rfl | rfl | rfl | rfl | rfl | rfl | rfl | rfl | rfl | rfl | rfl | rfl | rfl | rfl | rfl | rfl | rfl | rfl | rfl | rfl | rfl | rfl | rfl | rfl
  all_goals
    go_enter Tryd.func40, Tryd.ntmps40
    go_wp2
    go_ret
    exact ⟨rfl, rfl⟩

theorem rkept_any (s : ByteArray) (w : World) : Calls Tryd.prog 40 #[.string s] w fun e w' => e = .returned (.bool (keptB s)) ∧ w = w' := by
  rw [keptB_eq]
  by_cases h : s ∈ keptW
  · have : (keptW.any fun y => decide (s = y)) = true := List.any_eq_true.2 ⟨s, h, by simp⟩
    rw [this]
    exact rkept_yes s w h
  · have : (keptW.any fun y => decide (s = y)) = false := List.any_eq_false.2 fun y hy => by simpa using fun (e : s = y) => h (e ▸ hy)
    rw [this]
    have hn : ∀ y ∈ keptW, s ≠ y := fun y hy e => h (e ▸ hy)
    exact rkept_no s w (ne_list (hn kw0 (by simp [keptW])) rfl) (ne_list (hn kw1 (by simp [keptW])) rfl) (ne_list (hn kw2 (by simp [keptW])) rfl) (ne_list (hn kw3 (by simp [keptW])) rfl) (ne_list (hn kw4 (by simp [keptW])) rfl) (ne_list (hn kw5 (by simp [keptW])) rfl) (ne_list (hn kw6 (by simp [keptW])) rfl) (ne_list (hn kw7 (by simp [keptW])) rfl) (ne_list (hn kw8 (by simp [keptW])) rfl) (ne_list (hn kw9 (by simp [keptW])) rfl) (ne_list (hn kw10 (by simp [keptW])) rfl) (ne_list (hn kw11 (by simp [keptW])) rfl) (ne_list (hn kw12 (by simp [keptW])) rfl) (ne_list (hn kw13 (by simp [keptW])) rfl) (ne_list (hn kw14 (by simp [keptW])) rfl) (ne_list (hn kw15 (by simp [keptW])) rfl) (ne_list (hn kw16 (by simp [keptW])) rfl) (ne_list (hn kw17 (by simp [keptW])) rfl) (ne_list (hn kw18 (by simp [keptW])) rfl) (ne_list (hn kw19 (by simp [keptW])) rfl) (ne_list (hn kw20 (by simp [keptW])) rfl) (ne_list (hn kw21 (by simp [keptW])) rfl) (ne_list (hn kw22 (by simp [keptW])) rfl) (ne_list (hn kw23 (by simp [keptW])) rfl) (ne_list (hn kw24 (by simp [keptW])) rfl) (ne_list (hn kw25 (by simp [keptW])) rfl) (ne_list (hn kw26 (by simp [keptW])) rfl) (ne_list (hn kw27 (by simp [keptW])) rfl) (ne_list (hn kw28 (by simp [keptW])) rfl) (ne_list (hn kw29 (by simp [keptW])) rfl) (ne_list (hn kw30 (by simp [keptW])) rfl)

theorem rname4_any (s : ByteArray) (hs : s.size ≤ 9223372036854775807) (w : World) : Calls Tryd.prog 19 #[.string s] w fun e w' => e = .returned (.bool (tnameB s)) ∧ w = w' := by
  have H1 := hide (rname_any s hs w)
  have H2 := hide (rkept_any s w)
  unfold tnameB
  obtain ⟨a, ha⟩ : ∃ a, keptB s = a := ⟨_, rfl⟩
  obtain ⟨b, hb⟩ : ∃ b, nameB s = b := ⟨_, rfl⟩
  rw [ha] at H2 ⊢
  rw [hb] at H1 ⊢
  clear ha hb hs
  cases b
  · go_enter Tryd.func19, Tryd.ntmps19
    go_wp2_with fail
    (with_reducible refine H1.out.mono ?_)
    rintro e w' ⟨rfl, rfl⟩
    go_wp2
    go_ret
    exact ⟨ret_bool (by simp), rfl⟩
  · go_enter Tryd.func19, Tryd.ntmps19
    go_wp2_with fail
    (with_reducible refine H1.out.mono ?_)
    rintro e w' ⟨rfl, rfl⟩
    go_wp2_with fail
    (with_reducible refine H2.out.mono ?_)
    rintro e w' ⟨rfl, rfl⟩
    go_wp2
    go_ret
    exact ⟨ret_bool (by simp), rfl⟩
end Go.Proofs.YteealadflekffaaDoor
