/- witanlaw04.person, known. -/
import Derived.Test.YteealadflekffaaDoorTm11
namespace Go.Proofs.YteealadflekffaaDoor
open Go Go.RowKit Go.Lib

abbrev pName : ByteArray := ⟨#[112, 101, 114, 115, 111, 110]⟩
abbrev pS : List Slt := [⟨⟨#[97, 103, 101]⟩, 1⟩, ⟨⟨#[110, 97, 109, 101]⟩, 3⟩]
abbrev pRule : ByteArray := ⟨#[114, 117, 108, 101]⟩
abbrev pRules : ByteArray := ⟨#[114, 117, 108, 101, 115]⟩
abbrev vN : Vl := ⟨1, 1, ⟨#[]⟩⟩
abbrev vA : Vl := ⟨3, 0, ⟨#[97]⟩⟩
theorem rule_no : tnameB pRule = false := by decide +kernel
theorem rules_yes : tnameB pRules = true := by decide +kernel

/-- The template person, its slots in block g, itself in block h. -/
def pT (g : Nat) : Tpl := ⟨pName, pS, some ⟨g, 0, none⟩, 2⟩
theorem p_fits (g : Nat) : fitsN [pT g] 0 [vN, vA] = 0 := by
  have h := fits_in (L := [pT g]) (j := 0) (s := [vN, vA]) (by simp)
  rw [show ((0 : Nat) : Int) = 0 from rfl] at h
  have e : fitE [vN, vA] pS = 0 := by decide +kernel
  rw [h]
  exact (if_pos rfl).trans e
theorem p_kind (g : Nat) : fitsN [pT g] 0 [vA, vN] = 8 := by
  have h := fits_in (L := [pT g]) (j := 0) (s := [vA, vN]) (by simp)
  rw [show ((0 : Nat) : Int) = 0 from rfl] at h
  have e : fitE [vA, vN] pS = 8 := by decide +kernel
  rw [h]
  exact (if_pos rfl).trans e
theorem p_may (g : Nat) : tmayB [pT g] = true := by
  have h1 : namesGo [] (snames pS) = true := by decide +kernel
  have h2 : namesGo [] [pName] = true := by decide +kernel
  have h3 : (pS.any fun s => decide (s.k < 1 ∨ 5 < s.k)) = false := by decide +kernel
  have h4 : oneB (pT g) = true := by
    show (decide (1 ≤ 2) && decide (2 ≤ 8) && namesGo [] (snames pS) && !(pS.any fun s => decide (s.k < 1 ∨ 5 < s.k))) = true
    rw [h1, h3]
    rfl
  show (decide (1 ≤ 16) && namesGo [] [pName] && !(!oneB (pT g) || false)) = true
  rw [h2, h4]
  rfl

theorem person_is {w : World} {g h : Nat} (h1 : w.heap[g]? = some (.cells #[.string ⟨#[97, 103, 101]⟩, .int .u8 1, .string ⟨#[110, 97, 109, 101]⟩, .int .u8 3] 39)) (h2 : w.heap[h]? = some (.cells #[.string pName, .slice (some ⟨g, 0, none⟩) 2 2] 26)) :
    TplsIs w (some ⟨h, 0, none⟩) 1 [pT g] := by
  refine ⟨⟨by simp, by decide, .inl ⟨h, 0, rfl, fun i hi j v hv => ?_⟩⟩, fun t ht => ?_⟩
  · obtain rfl : i = 0 := by simp at hi; omega
    simp only [World.cell?, h2]
    rcases j with _ | _ | j
    · simpa [Tpl.cells, pT] using hv
    · simpa [Tpl.cells, pT, Tpl.x] using hv
    · simp [Tpl.cells] at hv
  · simp only [List.mem_singleton] at ht
    subst ht
    refine ⟨⟨⟨show 2 ≤ 2 by decide, show 2 ≤ 9223372036854775807 by decide, .inl ⟨g, 0, rfl, fun i hi j v hv => ?_⟩⟩, fun s hs => ?_⟩, show pName.size ≤ 9223372036854775807 by decide⟩
    · have hi' : i < 2 := hi
      simp only [World.cell?, h1]
      rcases i with _ | _ | i
      · rcases j with _ | _ | j
        · simpa [Slt.cells, pT] using hv
        · simpa [Slt.cells, pT] using hv
        · simp [Slt.cells] at hv
      · rcases j with _ | _ | j
        · simpa [Slt.cells, pT] using hv
        · simpa [Slt.cells, pT] using hv
        · simp [Slt.cells] at hv
      · omega
    · simp only [pT, List.mem_cons, List.not_mem_nil, or_false] at hs
      rcases hs with rfl | rfl <;> exact ⟨by decide, by decide, by decide⟩

theorem person_any (w : World) : Calls Tryd.prog 24 #[] w fun e w' => ∃ g h, e = .returned (.slice (some ⟨h, 0, none⟩) 1 1) ∧ TplsIs w' (some ⟨h, 0, none⟩) 1 [pT g] ∧ Below w.heap.size w w' := by
  have h1 := heap_new w (.cells #[.string ⟨#[97, 103, 101]⟩, .int .u8 1, .string ⟨#[110, 97, 109, 101]⟩, .int .u8 3] 39)
  have h2 := heap_new (w.alloc (.cells #[.string ⟨#[97, 103, 101]⟩, .int .u8 1, .string ⟨#[110, 97, 109, 101]⟩, .int .u8 3] 39)) (.cells #[.string pName, .slice (some ⟨w.heap.size, 0, none⟩) 2 2] 26)
  have h3 := (Below.heap_alloc (w.alloc (.cells #[.string ⟨#[97, 103, 101]⟩, .int .u8 1, .string ⟨#[110, 97, 109, 101]⟩, .int .u8 3] 39)) (.cells #[.string pName, .slice (some ⟨w.heap.size, 0, none⟩) 2 2] 26) _ (lt_of_block h1)).trans h1
  have Hp := hide (person_is h3 h2)
  have HB := hide (((Below.refl w.heap.size w).alloc (Nat.le_refl _) (.cells #[.string ⟨#[97, 103, 101]⟩, .int .u8 1, .string ⟨#[110, 97, 109, 101]⟩, .int .u8 3] 39)).alloc (by simp) (.cells #[.string pName, .slice (some ⟨w.heap.size, 0, none⟩) 2 2] 26))
  clear h1 h2 h3
  rw [World.size_alloc] at Hp
  go_enter Tryd.func24, Tryd.ntmps24
  go_wp2
  go_ret
  exact ⟨_, _, rfl, Hp.out, HB.out⟩

theorem vls_is {w : World} {g : Nat} (v u : Vl) (hv : v.ok) (hu : u.ok) (h : w.heap[g]? = some (.cells #[.int .u8 v.k, .int .i64 v.n, .string v.s, .int .u8 u.k, .int .i64 u.n, .string u.s] 33)) : VlsIs w (some ⟨g, 0, none⟩) 2 [v, u] := by
  refine ⟨⟨by simp, by decide, .inl ⟨g, 0, rfl, fun i hi j x hx => ?_⟩⟩, fun x hx => ?_⟩
  · have hi' : i < 2 := hi
    simp only [World.cell?, h]
    rcases i with _ | _ | i
    · rcases j with _ | _ | _ | j
      · simpa [Vl.cells] using hx
      · simpa [Vl.cells] using hx
      · simpa [Vl.cells] using hx
      · simp [Vl.cells] at hx
    · rcases j with _ | _ | _ | j
      · simpa [Vl.cells] using hx
      · simpa [Vl.cells] using hx
      · simpa [Vl.cells] using hx
      · simp [Vl.cells] at hx
    · omega
  · simp only [List.mem_cons, List.not_mem_nil, or_false] at hx
    rcases hx with rfl | rfl
    · exact hv
    · exact hu

theorem okN : vN.ok := ⟨by decide, by decide, by decide⟩
theorem okA : vA.ok := ⟨by decide, by decide, by decide⟩
theorem nRule (w : World) (hT : Tab w) : Calls Tryd.prog 13 #[.string pRule] w fun e w' => e = .returned (.bool false) ∧ Below w.heap.size w w' := by
  have h := name_any pRule (by decide) w hT
  rw [rule_no] at h
  exact h
theorem nRules (w : World) (hT : Tab w) : Calls Tryd.prog 13 #[.string pRules] w fun e w' => e = .returned (.bool true) ∧ Below w.heap.size w w' := by
  have h := name_any pRules (by decide) w hT
  rw [rules_yes] at h
  exact h
theorem fNS (w : World) (g h x : Nat) (hp : TplsIs w (some ⟨h, 0, none⟩) 1 [pT g]) (hv : VlsIs w (some ⟨x, 0, none⟩) 2 [vN, vA]) :
    Calls Tryd.prog 10 #[.slice (some ⟨h, 0, none⟩) 1 1, .int .i64 0, .slice (some ⟨x, 0, none⟩) 2 2] w fun e w' => e = .returned (.int .i64 0) ∧ Below w.heap.size w w' := by
  have h := fits_any 0 _ _ _ _ _ _ w hp hv
  rw [p_fits] at h
  exact h
theorem fSN (w : World) (g h x : Nat) (hp : TplsIs w (some ⟨h, 0, none⟩) 1 [pT g]) (hv : VlsIs w (some ⟨x, 0, none⟩) 2 [vA, vN]) :
    Calls Tryd.prog 10 #[.slice (some ⟨h, 0, none⟩) 1 1, .int .i64 0, .slice (some ⟨x, 0, none⟩) 2 2] w fun e w' => e = .returned (.int .i64 8) ∧ Below w.heap.size w w' := by
  have h := fits_any 0 _ _ _ _ _ _ w hp hv
  rw [p_kind] at h
  exact h
theorem mP (w : World) (g h : Nat) (hT : Tab w) (hp : TplsIs w (some ⟨h, 0, none⟩) 1 [pT g]) :
    Calls Tryd.prog 12 #[.slice (some ⟨h, 0, none⟩) 1 1] w fun e w' => e = .returned (.bool true) ∧ Below w.heap.size w w' := by
  have h := tmay_any _ _ _ w hT hp
  rw [p_may] at h
  exact h

set_option maxRecDepth 100000 in
set_option maxHeartbeats 4000000 in
theorem known_any (w : World) (hT : Tab w) : Calls Tryd.prog 9 #[] w fun e w' => e = .returned (.bool true) ∧ Below w.heap.size w w' := by
  obtain ⟨W0, hW0⟩ : ∃ W0, (((w.alloc (.cells #[.int .u8 1, .int .i64 1, .string ⟨#[]⟩] 33)).alloc (.cells #[.int .u8 3, .int .i64 0, .string ⟨#[97]⟩] 33)).drew) = W0 := ⟨_, rfl⟩
  have x0 := heap_new w (.cells #[.int .u8 1, .int .i64 1, .string ⟨#[]⟩] 33)
  have x1 := heap_new (w.alloc (.cells #[.int .u8 1, .int .i64 1, .string ⟨#[]⟩] 33)) (.cells #[.int .u8 3, .int .i64 0, .string ⟨#[97]⟩] 33)
  have x2 := (Below.heap_alloc (w.alloc (.cells #[.int .u8 1, .int .i64 1, .string ⟨#[]⟩] 33)) (.cells #[.int .u8 3, .int .i64 0, .string ⟨#[97]⟩] 33) _ (lt_of_block x0)).trans x0
  rw [World.size_alloc] at x1
  have hb0 : Below w.heap.size w W0 := by
    rw [← hW0]
    exact (((Below.refl w.heap.size w).alloc (Nat.le_refl _) _).alloc (by simp) _).drew
  have y0 : W0.heap[w.heap.size]? = some (.cells #[.int .u8 1, .int .i64 1, .string ⟨#[]⟩] 33) := by rw [← hW0]; exact x2
  have y1 : W0.heap[w.heap.size + 1]? = some (.cells #[.int .u8 3, .int .i64 0, .string ⟨#[97]⟩] 33) := by rw [← hW0]; exact x1
  have bW0 : Below W0.heap.size W0 W0 := Below.refl _ _
  have Hkeep : Hid (∀ V, Below W0.heap.size W0 V → V.cell? ⟨w.heap.size, 0, none⟩ = some (.int .u8 1) ∧ V.cell? ⟨w.heap.size, 1, none⟩ = some (.int .i64 1) ∧ V.cell? ⟨w.heap.size, 2, none⟩ = some (.string ⟨#[]⟩) ∧ V.cell? ⟨w.heap.size + 1, 0, none⟩ = some (.int .u8 3) ∧ V.cell? ⟨w.heap.size + 1, 1, none⟩ = some (.int .i64 0) ∧ V.cell? ⟨w.heap.size + 1, 2, none⟩ = some (.string ⟨#[97]⟩) ∧ Below w.heap.size w V ∧ Tab V) := hide fun V hV => by
    have z0 := (hV.block _ (lt_of_block y0)).trans y0
    have z1 := (hV.block _ (lt_of_block y1)).trans y1
    have hb := hb0.trans (hV.mono hb0.size)
    exact ⟨by simp [World.cell?, z0], by simp [World.cell?, z0], by simp [World.cell?, z0], by simp [World.cell?, z1], by simp [World.cell?, z1], by simp [World.cell?, z1], hb, hT.below hb⟩
  obtain ⟨z0W0, z1W0, z2W0, z3W0, z4W0, z5W0, z6W0⟩ := Hkeep.out W0 bW0
  have htW0 := hide z6W0.2
  clear z6W0 x0 x1 x2 hb0 y0 y1 hT
  go_enter Tryd.func9, Tryd.ntmps9
  go_wp2_with fail
  refine wp_region_noPanic ?_
  refine wp_region_held_drew (S := fun V => V.cell? ⟨w.heap.size, 0, none⟩ = some (.int .u8 1) ∧ V.cell? ⟨w.heap.size, 1, none⟩ = some (.int .i64 1) ∧ V.cell? ⟨w.heap.size, 2, none⟩ = some (.string ⟨#[]⟩) ∧ V.cell? ⟨w.heap.size + 1, 0, none⟩ = some (.int .u8 3) ∧ V.cell? ⟨w.heap.size + 1, 1, none⟩ = some (.int .i64 0) ∧ V.cell? ⟨w.heap.size + 1, 2, none⟩ = some (.string ⟨#[97]⟩)) (by kernel_rfl) ?_ (fun hHeld => ?_)
  · (try dsimp only); go_keep
  rw [hW0]
  clear hW0
  refine wpAnyH_ready (rs := [0]) (by kernel_rfl) (by simp) ?_
  refine (AllReadyH.cons (o := ⟨some 5, _, _, _, _, _⟩) (rs := []) rfl (fun K hK => ?_) AllReadyH.nil)
  go_simp
  go_at_call 13
  refine (nRule _ htW0.out).mono ?_
  rintro e V1 ⟨rfl, cV1⟩
  have bV1 := bW0.trans (cV1.mono bW0.size)
  obtain ⟨z0V1, z1V1, z2V1, z3V1, z4V1, z5V1, z6V1⟩ := Hkeep.out V1 bV1
  have hbV1 := hide z6V1.1
  have htV1 := hide z6V1.2
  clear z6V1
  try go_wp2_with fail
  clear hHeld
  refine hK.out _ _ ?_ (fun hHeld => ?_)
  · (try dsimp only); go_keep
  clear hK K
  try simp only [Act.put, List.setIfInBounds_toArray, List.set_cons_zero, List.set_cons_succ]
  refine wpAnyH_take (i := 1) (oi := ⟨some 6, _, _, _, _, _⟩) (v := ?v1q1) rfl (by kernel_rfl) (by kernel_rfl) (by kernel_rfl) (fun _ _ _ h => h) (Or.inl ⟨by rfl, ?h1q1⟩) (by assumption) ?r1q1
  case h1q1 => (intro w hSw; (try dsimp only at hSw); (first | (go_simp; done) | (go_simp; with_reducible rfl)))
  try simp only [Act.put, List.setIfInBounds_toArray, List.set_cons_zero, List.set_cons_succ]
  refine wpAnyH_take (i := 2) (oi := ⟨some 7, _, _, _, _, _⟩) (v := ?v2q2) rfl (by kernel_rfl) (by kernel_rfl) (by kernel_rfl) (fun _ _ _ h => h) (Or.inl ⟨by rfl, ?h2q2⟩) (by assumption) ?r2q2
  case h2q2 => (intro w hSw; (try dsimp only at hSw); (first | (go_simp; done) | (go_simp; with_reducible rfl)))
  try simp only [Act.put, List.setIfInBounds_toArray, List.set_cons_zero, List.set_cons_succ]
  refine wpAnyH_ready (rs := [3]) (by kernel_rfl) (by simp) ?_
  refine (AllReadyH.cons (o := ⟨some 8, _, _, _, _, _⟩) (rs := []) rfl (fun K hK => ?_) AllReadyH.nil)
  go_simp
  go_at_call 13
  refine (nRules _ htV1.out).mono ?_
  rintro e V2 ⟨rfl, cV2⟩
  have bV2 := bV1.trans (cV2.mono bV1.size)
  obtain ⟨z0V2, z1V2, z2V2, z3V2, z4V2, z5V2, z6V2⟩ := Hkeep.out V2 bV2
  have hbV2 := hide z6V2.1
  have htV2 := hide z6V2.2
  clear z6V2
  try go_wp2_with fail
  clear hHeld
  refine hK.out _ _ ?_ (fun hHeld => ?_)
  · (try dsimp only); go_keep
  clear hK K
  try simp only [Act.put, List.setIfInBounds_toArray, List.set_cons_zero, List.set_cons_succ]
  refine wpAnyH_take (i := 4) (oi := ⟨some 9, _, _, _, _, _⟩) (v := ?v4q3) rfl (by kernel_rfl) (by kernel_rfl) (by kernel_rfl) (fun _ _ _ h => h) (Or.inl ⟨by rfl, ?h4q3⟩) (by assumption) ?r4q3
  case h4q3 => (intro w hSw; (try dsimp only at hSw); (first | (go_simp; done) | (go_simp; with_reducible rfl)))
  try simp only [Act.put, List.setIfInBounds_toArray, List.set_cons_zero, List.set_cons_succ]
  refine wpAnyH_take (i := 5) (oi := ⟨some 10, _, _, _, _, _⟩) (v := ?v5q4) rfl (by kernel_rfl) (by kernel_rfl) (by kernel_rfl) (fun _ _ _ h => h) (Or.inl ⟨by rfl, ?h5q4⟩) (by assumption) ?r5q4
  case h5q4 => (intro w hSw; (try dsimp only at hSw); (first | (go_simp; done) | (go_simp; with_reducible rfl)))
  try simp only [Act.put, List.setIfInBounds_toArray, List.set_cons_zero, List.set_cons_succ]
  refine wpAnyH_take (i := 7) (oi := ⟨some 12, _, _, _, _, _⟩) (v := ?v7q5) rfl (by kernel_rfl) (by kernel_rfl) (by kernel_rfl) (fun _ _ _ h => h) (Or.inl ⟨by rfl, ?h7q5⟩) (by assumption) ?r7q5
  case h7q5 => (intro w hSw; (try dsimp only at hSw); (first | (go_simp; done) | (go_simp; with_reducible rfl)))
  try simp only [Act.put, List.setIfInBounds_toArray, List.set_cons_zero, List.set_cons_succ]
  refine wpAnyH_take (i := 8) (oi := ⟨some 13, _, _, _, _, _⟩) (v := ?v8q6) rfl (by kernel_rfl) (by kernel_rfl) (by kernel_rfl) (fun _ _ _ h => h) (Or.inl ⟨by rfl, ?h8q6⟩) (by assumption) ?r8q6
  case h8q6 => (intro w hSw; (try dsimp only at hSw); (first | (go_simp; done) | (go_simp; with_reducible rfl)))
  try simp only [Act.put, List.setIfInBounds_toArray, List.set_cons_zero, List.set_cons_succ]
  refine wpAnyH_ready (rs := [6, 9]) (by kernel_rfl) (by simp) ?_
  refine (AllReadyH.cons (o := ⟨some 11, _, _, _, _, _⟩) (rs := [9]) rfl (fun K hK => ?_) (AllReadyH.cons (o := ⟨some 14, _, _, _, _, _⟩) (rs := []) rfl (fun K hK => ?_) AllReadyH.nil))
  · go_simp
    go_at_call 24
    refine (person_any _).mono ?_
    rintro e V3 ⟨gV3, hV3, rfl, pV3, cV3⟩
    have bV3 := bV2.trans (cV3.mono bV2.size)
    obtain ⟨z0V3, z1V3, z2V3, z3V3, z4V3, z5V3, z6V3⟩ := Hkeep.out V3 bV3
    have hbV3 := hide z6V3.1
    have htV3 := hide z6V3.2
    clear z6V3
    try go_wp2_with fail
    clear hHeld
    refine hK.out _ _ ?_ (fun hHeld => ?_)
    · (try dsimp only); go_keep
    clear hK K
    try simp only [Act.put, List.setIfInBounds_toArray, List.set_cons_zero, List.set_cons_succ]
    refine wpAnyH_ready (rs := [9]) (by kernel_rfl) (by simp) ?_
    refine (AllReadyH.cons (o := ⟨some 14, _, _, _, _, _⟩) (rs := []) rfl (fun K hK => ?_) AllReadyH.nil)
    have xV4 := heap_new V3 (.cells #[.int .u8 1, .int .i64 1, .string ⟨#[]⟩, .int .u8 3, .int .i64 0, .string ⟨#[97]⟩] 33)
    have cV4 := (Below.refl V3.heap.size V3).alloc (Nat.le_refl _) (.cells #[.int .u8 1, .int .i64 1, .string ⟨#[]⟩, .int .u8 3, .int .i64 0, .string ⟨#[97]⟩] 33)
    have bV4 := bV3.trans (cV4.mono bV3.size)
    obtain ⟨V4, eV4⟩ : ∃ V, V3.alloc (.cells #[.int .u8 1, .int .i64 1, .string ⟨#[]⟩, .int .u8 3, .int .i64 0, .string ⟨#[97]⟩] 33) = V := ⟨_, rfl⟩
    rw [eV4] at xV4 cV4 bV4
    obtain ⟨z0V4, z1V4, z2V4, z3V4, z4V4, z5V4, z6V4⟩ := Hkeep.out V4 bV4
    have hbV4 := hide z6V4.1
    have htV4 := hide z6V4.2
    clear z6V4
    go_simp
    clear eV4
    try go_wp2_with fail
    clear hHeld
    refine hK.out _ _ ?_ (fun hHeld => ?_)
    · (try dsimp only); go_keep
    clear hK K
    try simp only [Act.put, List.setIfInBounds_toArray, List.set_cons_zero, List.set_cons_succ]
    refine wpAnyH_ready (rs := [10]) (by kernel_rfl) (by simp) ?_
    refine (AllReadyH.cons (o := ⟨some 15, _, _, _, _, _⟩) (rs := []) rfl (fun K hK => ?_) AllReadyH.nil)
    go_simp
    go_at_call 10
    refine (fNS _ _ _ _ (pV3.below cV4) (vls_is vN vA okN okA xV4)).mono ?_
    rintro e V7 ⟨rfl, cV7⟩
    have bV7 := bV4.trans (cV7.mono bV4.size)
    obtain ⟨z0V7, z1V7, z2V7, z3V7, z4V7, z5V7, z6V7⟩ := Hkeep.out V7 bV7
    have hbV7 := hide z6V7.1
    have htV7 := hide z6V7.2
    clear z6V7
    try go_wp2_with fail
    clear hHeld
    refine hK.out _ _ ?_ (fun hHeld => ?_)
    · (try dsimp only); go_keep
    clear hK K
    try simp only [Act.put, List.setIfInBounds_toArray, List.set_cons_zero, List.set_cons_succ]
    refine wpAnyH_take (i := 11) (oi := ⟨some 16, _, _, _, _, _⟩) (v := ?v11q7) rfl (by kernel_rfl) (by kernel_rfl) (by kernel_rfl) (fun _ _ _ h => h) (Or.inl ⟨by rfl, ?h11q7⟩) (by assumption) ?r11q7
    case h11q7 => (intro w hSw; (try dsimp only at hSw); (first | (go_simp; done) | (go_simp; with_reducible rfl)))
    try simp only [Act.put, List.setIfInBounds_toArray, List.set_cons_zero, List.set_cons_succ]
    refine wpAnyH_take (i := 12) (oi := ⟨some 17, _, _, _, _, _⟩) (v := ?v12q8) rfl (by kernel_rfl) (by kernel_rfl) (by kernel_rfl) (fun _ _ _ h => h) (Or.inl ⟨by rfl, ?h12q8⟩) (by assumption) ?r12q8
    case h12q8 => (intro w hSw; (try dsimp only at hSw); (first | (go_simp; done) | (go_simp; with_reducible rfl)))
    try simp only [Act.put, List.setIfInBounds_toArray, List.set_cons_zero, List.set_cons_succ]
    refine wpAnyH_take (i := 13) (oi := ⟨some 18, _, _, _, _, _⟩) (v := ?v13q9) rfl (by kernel_rfl) (by kernel_rfl) (by kernel_rfl) (fun _ _ _ h => h) (Or.inl ⟨by rfl, ?h13q9⟩) (by assumption) ?r13q9
    case h13q9 => (intro w hSw; (try dsimp only at hSw); (first | (go_simp; done) | (go_simp; with_reducible rfl)))
    try simp only [Act.put, List.setIfInBounds_toArray, List.set_cons_zero, List.set_cons_succ]
    refine wpAnyH_take (i := 15) (oi := ⟨some 20, _, _, _, _, _⟩) (v := ?v15q10) rfl (by kernel_rfl) (by kernel_rfl) (by kernel_rfl) (fun _ _ _ h => h) (Or.inl ⟨by rfl, ?h15q10⟩) (by assumption) ?r15q10
    case h15q10 => (intro w hSw; (try dsimp only at hSw); (first | (go_simp; done) | (go_simp; with_reducible rfl)))
    try simp only [Act.put, List.setIfInBounds_toArray, List.set_cons_zero, List.set_cons_succ]
    refine wpAnyH_take (i := 16) (oi := ⟨some 21, _, _, _, _, _⟩) (v := ?v16q11) rfl (by kernel_rfl) (by kernel_rfl) (by kernel_rfl) (fun _ _ _ h => h) (Or.inl ⟨by rfl, ?h16q11⟩) (by assumption) ?r16q11
    case h16q11 => (intro w hSw; (try dsimp only at hSw); (first | (go_simp; done) | (go_simp; with_reducible rfl)))
    try simp only [Act.put, List.setIfInBounds_toArray, List.set_cons_zero, List.set_cons_succ]
    refine wpAnyH_ready (rs := [14, 17]) (by kernel_rfl) (by simp) ?_
    refine (AllReadyH.cons (o := ⟨some 19, _, _, _, _, _⟩) (rs := [17]) rfl (fun K hK => ?_) (AllReadyH.cons (o := ⟨some 22, _, _, _, _, _⟩) (rs := []) rfl (fun K hK => ?_) AllReadyH.nil))
    · go_simp
      go_at_call 24
      refine (person_any _).mono ?_
      rintro e V8 ⟨gV8, hV8, rfl, pV8, cV8⟩
      have bV8 := bV7.trans (cV8.mono bV7.size)
      obtain ⟨z0V8, z1V8, z2V8, z3V8, z4V8, z5V8, z6V8⟩ := Hkeep.out V8 bV8
      have hbV8 := hide z6V8.1
      have htV8 := hide z6V8.2
      clear z6V8
      try go_wp2_with fail
      clear hHeld
      refine hK.out _ _ ?_ (fun hHeld => ?_)
      · (try dsimp only); go_keep
      clear hK K
      try simp only [Act.put, List.setIfInBounds_toArray, List.set_cons_zero, List.set_cons_succ]
      refine wpAnyH_ready (rs := [17]) (by kernel_rfl) (by simp) ?_
      refine (AllReadyH.cons (o := ⟨some 22, _, _, _, _, _⟩) (rs := []) rfl (fun K hK => ?_) AllReadyH.nil)
      have xV9 := heap_new V8 (.cells #[.int .u8 3, .int .i64 0, .string ⟨#[97]⟩, .int .u8 1, .int .i64 1, .string ⟨#[]⟩] 33)
      have cV9 := (Below.refl V8.heap.size V8).alloc (Nat.le_refl _) (.cells #[.int .u8 3, .int .i64 0, .string ⟨#[97]⟩, .int .u8 1, .int .i64 1, .string ⟨#[]⟩] 33)
      have bV9 := bV8.trans (cV9.mono bV8.size)
      obtain ⟨V9, eV9⟩ : ∃ V, V8.alloc (.cells #[.int .u8 3, .int .i64 0, .string ⟨#[97]⟩, .int .u8 1, .int .i64 1, .string ⟨#[]⟩] 33) = V := ⟨_, rfl⟩
      rw [eV9] at xV9 cV9 bV9
      obtain ⟨z0V9, z1V9, z2V9, z3V9, z4V9, z5V9, z6V9⟩ := Hkeep.out V9 bV9
      have hbV9 := hide z6V9.1
      have htV9 := hide z6V9.2
      clear z6V9
      go_simp
      clear eV9
      try go_wp2_with fail
      clear hHeld
      refine hK.out _ _ ?_ (fun hHeld => ?_)
      · (try dsimp only); go_keep
      clear hK K
      try simp only [Act.put, List.setIfInBounds_toArray, List.set_cons_zero, List.set_cons_succ]
      refine wpAnyH_ready (rs := [18]) (by kernel_rfl) (by simp) ?_
      refine (AllReadyH.cons (o := ⟨some 23, _, _, _, _, _⟩) (rs := []) rfl (fun K hK => ?_) AllReadyH.nil)
      go_simp
      go_at_call 10
      refine (fSN _ _ _ _ (pV8.below cV9) (vls_is vA vN okA okN xV9)).mono ?_
      rintro e V12 ⟨rfl, cV12⟩
      have bV12 := bV9.trans (cV12.mono bV9.size)
      obtain ⟨z0V12, z1V12, z2V12, z3V12, z4V12, z5V12, z6V12⟩ := Hkeep.out V12 bV12
      have hbV12 := hide z6V12.1
      have htV12 := hide z6V12.2
      clear z6V12
      try go_wp2_with fail
      clear hHeld
      refine hK.out _ _ ?_ (fun hHeld => ?_)
      · (try dsimp only); go_keep
      clear hK K
      try simp only [Act.put, List.setIfInBounds_toArray, List.set_cons_zero, List.set_cons_succ]
      refine wpAnyH_take (i := 19) (oi := ⟨some 24, _, _, _, _, _⟩) (v := ?v19q12) rfl (by kernel_rfl) (by kernel_rfl) (by kernel_rfl) (fun _ _ _ h => h) (Or.inl ⟨by rfl, ?h19q12⟩) (by assumption) ?r19q12
      case h19q12 => (intro w hSw; (try dsimp only at hSw); (first | (go_simp; done) | (go_simp; with_reducible rfl)))
      try simp only [Act.put, List.setIfInBounds_toArray, List.set_cons_zero, List.set_cons_succ]
      refine wpAnyH_take (i := 20) (oi := ⟨some 25, _, _, _, _, _⟩) (v := ?v20q13) rfl (by kernel_rfl) (by kernel_rfl) (by kernel_rfl) (fun _ _ _ h => h) (Or.inl ⟨by rfl, ?h20q13⟩) (by assumption) ?r20q13
      case h20q13 => (intro w hSw; (try dsimp only at hSw); (first | (go_simp; done) | (go_simp; with_reducible rfl)))
      try simp only [Act.put, List.setIfInBounds_toArray, List.set_cons_zero, List.set_cons_succ]
      refine wpAnyH_take (i := 21) (oi := ⟨some 26, _, _, _, _, _⟩) (v := ?v21q14) rfl (by kernel_rfl) (by kernel_rfl) (by kernel_rfl) (fun _ _ _ h => h) (Or.inl ⟨by rfl, ?h21q14⟩) (by assumption) ?r21q14
      case h21q14 => (intro w hSw; (try dsimp only at hSw); (first | (go_simp; done) | (go_simp; with_reducible rfl)))
      try simp only [Act.put, List.setIfInBounds_toArray, List.set_cons_zero, List.set_cons_succ]
      refine wpAnyH_ready (rs := [22]) (by kernel_rfl) (by simp) ?_
      refine (AllReadyH.cons (o := ⟨some 27, _, _, _, _, _⟩) (rs := []) rfl (fun K hK => ?_) AllReadyH.nil)
      go_simp
      go_at_call 24
      refine (person_any _).mono ?_
      rintro e V13 ⟨gV13, hV13, rfl, pV13, cV13⟩
      have bV13 := bV12.trans (cV13.mono bV12.size)
      obtain ⟨z0V13, z1V13, z2V13, z3V13, z4V13, z5V13, z6V13⟩ := Hkeep.out V13 bV13
      have hbV13 := hide z6V13.1
      have htV13 := hide z6V13.2
      clear z6V13
      try go_wp2_with fail
      clear hHeld
      refine hK.out _ _ ?_ (fun hHeld => ?_)
      · (try dsimp only); go_keep
      clear hK K
      try simp only [Act.put, List.setIfInBounds_toArray, List.set_cons_zero, List.set_cons_succ]
      refine wpAnyH_ready (rs := [23]) (by kernel_rfl) (by simp) ?_
      refine (AllReadyH.cons (o := ⟨some 28, _, _, _, _, _⟩) (rs := []) rfl (fun K hK => ?_) AllReadyH.nil)
      go_simp
      go_at_call 12
      refine (mP _ _ _ htV13.out pV13).mono ?_
      rintro e V14 ⟨rfl, cV14⟩
      have bV14 := bV13.trans (cV14.mono bV13.size)
      obtain ⟨z0V14, z1V14, z2V14, z3V14, z4V14, z5V14, z6V14⟩ := Hkeep.out V14 bV14
      have hbV14 := hide z6V14.1
      have htV14 := hide z6V14.2
      clear z6V14
      try go_wp2_with fail
      clear hHeld
      refine hK.out _ _ ?_ (fun hHeld => ?_)
      · (try dsimp only); go_keep
      clear hK K
      try simp only [Act.put, List.setIfInBounds_toArray, List.set_cons_zero, List.set_cons_succ]
      refine wpAnyH_take (i := 24) (oi := ⟨some 29, _, _, _, _, _⟩) (v := ?v24q15) rfl (by kernel_rfl) (by kernel_rfl) (by kernel_rfl) (fun _ _ _ h => h) (Or.inl ⟨by rfl, ?h24q15⟩) (by assumption) ?r24q15
      case h24q15 => (intro w hSw; (try dsimp only at hSw); (first | (go_simp; done) | (go_simp; with_reducible rfl)))
      try simp only [Act.put, List.setIfInBounds_toArray, List.set_cons_zero, List.set_cons_succ]
      refine wpAnyH_take (i := 25) (oi := ⟨some 0, _, _, _, _, _⟩) (v := ?v25q16) rfl (by kernel_rfl) (by kernel_rfl) (by kernel_rfl) (fun _ _ _ h => h) (Or.inl ⟨by rfl, ?h25q16⟩) (by assumption) ?r25q16
      case h25q16 => (intro w hSw; (try dsimp only at hSw); (first | (go_simp; done) | (go_simp; with_reducible rfl)))
      try simp only [Act.put, List.setIfInBounds_toArray, List.set_cons_zero]
      refine wpAnyH_done (by kernel_rfl) ?_ _
      refine NoPanic.normal ?_
      go_wp2
      go_ret
      exact ⟨rfl, hbV14.out⟩
    · have xV10 := heap_new V7 (.cells #[.int .u8 3, .int .i64 0, .string ⟨#[97]⟩, .int .u8 1, .int .i64 1, .string ⟨#[]⟩] 33)
      have cV10 := (Below.refl V7.heap.size V7).alloc (Nat.le_refl _) (.cells #[.int .u8 3, .int .i64 0, .string ⟨#[97]⟩, .int .u8 1, .int .i64 1, .string ⟨#[]⟩] 33)
      have bV10 := bV7.trans (cV10.mono bV7.size)
      obtain ⟨V10, eV10⟩ : ∃ V, V7.alloc (.cells #[.int .u8 3, .int .i64 0, .string ⟨#[97]⟩, .int .u8 1, .int .i64 1, .string ⟨#[]⟩] 33) = V := ⟨_, rfl⟩
      rw [eV10] at xV10 cV10 bV10
      obtain ⟨z0V10, z1V10, z2V10, z3V10, z4V10, z5V10, z6V10⟩ := Hkeep.out V10 bV10
      have hbV10 := hide z6V10.1
      have htV10 := hide z6V10.2
      clear z6V10
      go_simp
      clear eV10
      try go_wp2_with fail
      clear hHeld
      refine hK.out _ _ ?_ (fun hHeld => ?_)
      · (try dsimp only); go_keep
      clear hK K
      try simp only [Act.put, List.setIfInBounds_toArray, List.set_cons_zero, List.set_cons_succ]
      refine wpAnyH_ready (rs := [14]) (by kernel_rfl) (by simp) ?_
      refine (AllReadyH.cons (o := ⟨some 19, _, _, _, _, _⟩) (rs := []) rfl (fun K hK => ?_) AllReadyH.nil)
      go_simp
      go_at_call 24
      refine (person_any _).mono ?_
      rintro e V11 ⟨gV11, hV11, rfl, pV11, cV11⟩
      have bV11 := bV10.trans (cV11.mono bV10.size)
      obtain ⟨z0V11, z1V11, z2V11, z3V11, z4V11, z5V11, z6V11⟩ := Hkeep.out V11 bV11
      have hbV11 := hide z6V11.1
      have htV11 := hide z6V11.2
      clear z6V11
      try go_wp2_with fail
      clear hHeld
      refine hK.out _ _ ?_ (fun hHeld => ?_)
      · (try dsimp only); go_keep
      clear hK K
      try simp only [Act.put, List.setIfInBounds_toArray, List.set_cons_zero, List.set_cons_succ]
      refine wpAnyH_ready (rs := [18]) (by kernel_rfl) (by simp) ?_
      refine (AllReadyH.cons (o := ⟨some 23, _, _, _, _, _⟩) (rs := []) rfl (fun K hK => ?_) AllReadyH.nil)
      go_simp
      go_at_call 10
      refine (fSN _ _ _ _ pV11 (vls_is vA vN okA okN ((cV11.block _ (lt_of_block xV10)).trans xV10))).mono ?_
      rintro e V15 ⟨rfl, cV15⟩
      have bV15 := bV11.trans (cV15.mono bV11.size)
      obtain ⟨z0V15, z1V15, z2V15, z3V15, z4V15, z5V15, z6V15⟩ := Hkeep.out V15 bV15
      have hbV15 := hide z6V15.1
      have htV15 := hide z6V15.2
      clear z6V15
      try go_wp2_with fail
      clear hHeld
      refine hK.out _ _ ?_ (fun hHeld => ?_)
      · (try dsimp only); go_keep
      clear hK K
      try simp only [Act.put, List.setIfInBounds_toArray, List.set_cons_zero, List.set_cons_succ]
      refine wpAnyH_take (i := 19) (oi := ⟨some 24, _, _, _, _, _⟩) (v := ?v19q17) rfl (by kernel_rfl) (by kernel_rfl) (by kernel_rfl) (fun _ _ _ h => h) (Or.inl ⟨by rfl, ?h19q17⟩) (by assumption) ?r19q17
      case h19q17 => (intro w hSw; (try dsimp only at hSw); (first | (go_simp; done) | (go_simp; with_reducible rfl)))
      try simp only [Act.put, List.setIfInBounds_toArray, List.set_cons_zero, List.set_cons_succ]
      refine wpAnyH_take (i := 20) (oi := ⟨some 25, _, _, _, _, _⟩) (v := ?v20q18) rfl (by kernel_rfl) (by kernel_rfl) (by kernel_rfl) (fun _ _ _ h => h) (Or.inl ⟨by rfl, ?h20q18⟩) (by assumption) ?r20q18
      case h20q18 => (intro w hSw; (try dsimp only at hSw); (first | (go_simp; done) | (go_simp; with_reducible rfl)))
      try simp only [Act.put, List.setIfInBounds_toArray, List.set_cons_zero, List.set_cons_succ]
      refine wpAnyH_take (i := 21) (oi := ⟨some 26, _, _, _, _, _⟩) (v := ?v21q19) rfl (by kernel_rfl) (by kernel_rfl) (by kernel_rfl) (fun _ _ _ h => h) (Or.inl ⟨by rfl, ?h21q19⟩) (by assumption) ?r21q19
      case h21q19 => (intro w hSw; (try dsimp only at hSw); (first | (go_simp; done) | (go_simp; with_reducible rfl)))
      try simp only [Act.put, List.setIfInBounds_toArray, List.set_cons_zero, List.set_cons_succ]
      refine wpAnyH_ready (rs := [22]) (by kernel_rfl) (by simp) ?_
      refine (AllReadyH.cons (o := ⟨some 27, _, _, _, _, _⟩) (rs := []) rfl (fun K hK => ?_) AllReadyH.nil)
      go_simp
      go_at_call 24
      refine (person_any _).mono ?_
      rintro e V16 ⟨gV16, hV16, rfl, pV16, cV16⟩
      have bV16 := bV15.trans (cV16.mono bV15.size)
      obtain ⟨z0V16, z1V16, z2V16, z3V16, z4V16, z5V16, z6V16⟩ := Hkeep.out V16 bV16
      have hbV16 := hide z6V16.1
      have htV16 := hide z6V16.2
      clear z6V16
      try go_wp2_with fail
      clear hHeld
      refine hK.out _ _ ?_ (fun hHeld => ?_)
      · (try dsimp only); go_keep
      clear hK K
      try simp only [Act.put, List.setIfInBounds_toArray, List.set_cons_zero, List.set_cons_succ]
      refine wpAnyH_ready (rs := [23]) (by kernel_rfl) (by simp) ?_
      refine (AllReadyH.cons (o := ⟨some 28, _, _, _, _, _⟩) (rs := []) rfl (fun K hK => ?_) AllReadyH.nil)
      go_simp
      go_at_call 12
      refine (mP _ _ _ htV16.out pV16).mono ?_
      rintro e V17 ⟨rfl, cV17⟩
      have bV17 := bV16.trans (cV17.mono bV16.size)
      obtain ⟨z0V17, z1V17, z2V17, z3V17, z4V17, z5V17, z6V17⟩ := Hkeep.out V17 bV17
      have hbV17 := hide z6V17.1
      have htV17 := hide z6V17.2
      clear z6V17
      try go_wp2_with fail
      clear hHeld
      refine hK.out _ _ ?_ (fun hHeld => ?_)
      · (try dsimp only); go_keep
      clear hK K
      try simp only [Act.put, List.setIfInBounds_toArray, List.set_cons_zero, List.set_cons_succ]
      refine wpAnyH_take (i := 24) (oi := ⟨some 29, _, _, _, _, _⟩) (v := ?v24q20) rfl (by kernel_rfl) (by kernel_rfl) (by kernel_rfl) (fun _ _ _ h => h) (Or.inl ⟨by rfl, ?h24q20⟩) (by assumption) ?r24q20
      case h24q20 => (intro w hSw; (try dsimp only at hSw); (first | (go_simp; done) | (go_simp; with_reducible rfl)))
      try simp only [Act.put, List.setIfInBounds_toArray, List.set_cons_zero, List.set_cons_succ]
      refine wpAnyH_take (i := 25) (oi := ⟨some 0, _, _, _, _, _⟩) (v := ?v25q21) rfl (by kernel_rfl) (by kernel_rfl) (by kernel_rfl) (fun _ _ _ h => h) (Or.inl ⟨by rfl, ?h25q21⟩) (by assumption) ?r25q21
      case h25q21 => (intro w hSw; (try dsimp only at hSw); (first | (go_simp; done) | (go_simp; with_reducible rfl)))
      try simp only [Act.put, List.setIfInBounds_toArray, List.set_cons_zero]
      refine wpAnyH_done (by kernel_rfl) ?_ _
      refine NoPanic.normal ?_
      go_wp2
      go_ret
      exact ⟨rfl, hbV17.out⟩
  · have xV5 := heap_new V2 (.cells #[.int .u8 1, .int .i64 1, .string ⟨#[]⟩, .int .u8 3, .int .i64 0, .string ⟨#[97]⟩] 33)
    have cV5 := (Below.refl V2.heap.size V2).alloc (Nat.le_refl _) (.cells #[.int .u8 1, .int .i64 1, .string ⟨#[]⟩, .int .u8 3, .int .i64 0, .string ⟨#[97]⟩] 33)
    have bV5 := bV2.trans (cV5.mono bV2.size)
    obtain ⟨V5, eV5⟩ : ∃ V, V2.alloc (.cells #[.int .u8 1, .int .i64 1, .string ⟨#[]⟩, .int .u8 3, .int .i64 0, .string ⟨#[97]⟩] 33) = V := ⟨_, rfl⟩
    rw [eV5] at xV5 cV5 bV5
    obtain ⟨z0V5, z1V5, z2V5, z3V5, z4V5, z5V5, z6V5⟩ := Hkeep.out V5 bV5
    have hbV5 := hide z6V5.1
    have htV5 := hide z6V5.2
    clear z6V5
    go_simp
    clear eV5
    try go_wp2_with fail
    clear hHeld
    refine hK.out _ _ ?_ (fun hHeld => ?_)
    · (try dsimp only); go_keep
    clear hK K
    try simp only [Act.put, List.setIfInBounds_toArray, List.set_cons_zero, List.set_cons_succ]
    refine wpAnyH_ready (rs := [6]) (by kernel_rfl) (by simp) ?_
    refine (AllReadyH.cons (o := ⟨some 11, _, _, _, _, _⟩) (rs := []) rfl (fun K hK => ?_) AllReadyH.nil)
    go_simp
    go_at_call 24
    refine (person_any _).mono ?_
    rintro e V6 ⟨gV6, hV6, rfl, pV6, cV6⟩
    have bV6 := bV5.trans (cV6.mono bV5.size)
    obtain ⟨z0V6, z1V6, z2V6, z3V6, z4V6, z5V6, z6V6⟩ := Hkeep.out V6 bV6
    have hbV6 := hide z6V6.1
    have htV6 := hide z6V6.2
    clear z6V6
    try go_wp2_with fail
    clear hHeld
    refine hK.out _ _ ?_ (fun hHeld => ?_)
    · (try dsimp only); go_keep
    clear hK K
    try simp only [Act.put, List.setIfInBounds_toArray, List.set_cons_zero, List.set_cons_succ]
    refine wpAnyH_ready (rs := [10]) (by kernel_rfl) (by simp) ?_
    refine (AllReadyH.cons (o := ⟨some 15, _, _, _, _, _⟩) (rs := []) rfl (fun K hK => ?_) AllReadyH.nil)
    go_simp
    go_at_call 10
    refine (fNS _ _ _ _ pV6 (vls_is vN vA okN okA ((cV6.block _ (lt_of_block xV5)).trans xV5))).mono ?_
    rintro e V18 ⟨rfl, cV18⟩
    have bV18 := bV6.trans (cV18.mono bV6.size)
    obtain ⟨z0V18, z1V18, z2V18, z3V18, z4V18, z5V18, z6V18⟩ := Hkeep.out V18 bV18
    have hbV18 := hide z6V18.1
    have htV18 := hide z6V18.2
    clear z6V18
    try go_wp2_with fail
    clear hHeld
    refine hK.out _ _ ?_ (fun hHeld => ?_)
    · (try dsimp only); go_keep
    clear hK K
    try simp only [Act.put, List.setIfInBounds_toArray, List.set_cons_zero, List.set_cons_succ]
    refine wpAnyH_take (i := 11) (oi := ⟨some 16, _, _, _, _, _⟩) (v := ?v11q22) rfl (by kernel_rfl) (by kernel_rfl) (by kernel_rfl) (fun _ _ _ h => h) (Or.inl ⟨by rfl, ?h11q22⟩) (by assumption) ?r11q22
    case h11q22 => (intro w hSw; (try dsimp only at hSw); (first | (go_simp; done) | (go_simp; with_reducible rfl)))
    try simp only [Act.put, List.setIfInBounds_toArray, List.set_cons_zero, List.set_cons_succ]
    refine wpAnyH_take (i := 12) (oi := ⟨some 17, _, _, _, _, _⟩) (v := ?v12q23) rfl (by kernel_rfl) (by kernel_rfl) (by kernel_rfl) (fun _ _ _ h => h) (Or.inl ⟨by rfl, ?h12q23⟩) (by assumption) ?r12q23
    case h12q23 => (intro w hSw; (try dsimp only at hSw); (first | (go_simp; done) | (go_simp; with_reducible rfl)))
    try simp only [Act.put, List.setIfInBounds_toArray, List.set_cons_zero, List.set_cons_succ]
    refine wpAnyH_take (i := 13) (oi := ⟨some 18, _, _, _, _, _⟩) (v := ?v13q24) rfl (by kernel_rfl) (by kernel_rfl) (by kernel_rfl) (fun _ _ _ h => h) (Or.inl ⟨by rfl, ?h13q24⟩) (by assumption) ?r13q24
    case h13q24 => (intro w hSw; (try dsimp only at hSw); (first | (go_simp; done) | (go_simp; with_reducible rfl)))
    try simp only [Act.put, List.setIfInBounds_toArray, List.set_cons_zero, List.set_cons_succ]
    refine wpAnyH_take (i := 15) (oi := ⟨some 20, _, _, _, _, _⟩) (v := ?v15q25) rfl (by kernel_rfl) (by kernel_rfl) (by kernel_rfl) (fun _ _ _ h => h) (Or.inl ⟨by rfl, ?h15q25⟩) (by assumption) ?r15q25
    case h15q25 => (intro w hSw; (try dsimp only at hSw); (first | (go_simp; done) | (go_simp; with_reducible rfl)))
    try simp only [Act.put, List.setIfInBounds_toArray, List.set_cons_zero, List.set_cons_succ]
    refine wpAnyH_take (i := 16) (oi := ⟨some 21, _, _, _, _, _⟩) (v := ?v16q26) rfl (by kernel_rfl) (by kernel_rfl) (by kernel_rfl) (fun _ _ _ h => h) (Or.inl ⟨by rfl, ?h16q26⟩) (by assumption) ?r16q26
    case h16q26 => (intro w hSw; (try dsimp only at hSw); (first | (go_simp; done) | (go_simp; with_reducible rfl)))
    try simp only [Act.put, List.setIfInBounds_toArray, List.set_cons_zero, List.set_cons_succ]
    refine wpAnyH_ready (rs := [14, 17]) (by kernel_rfl) (by simp) ?_
    refine (AllReadyH.cons (o := ⟨some 19, _, _, _, _, _⟩) (rs := [17]) rfl (fun K hK => ?_) (AllReadyH.cons (o := ⟨some 22, _, _, _, _, _⟩) (rs := []) rfl (fun K hK => ?_) AllReadyH.nil))
    · go_simp
      go_at_call 24
      refine (person_any _).mono ?_
      rintro e V19 ⟨gV19, hV19, rfl, pV19, cV19⟩
      have bV19 := bV18.trans (cV19.mono bV18.size)
      obtain ⟨z0V19, z1V19, z2V19, z3V19, z4V19, z5V19, z6V19⟩ := Hkeep.out V19 bV19
      have hbV19 := hide z6V19.1
      have htV19 := hide z6V19.2
      clear z6V19
      try go_wp2_with fail
      clear hHeld
      refine hK.out _ _ ?_ (fun hHeld => ?_)
      · (try dsimp only); go_keep
      clear hK K
      try simp only [Act.put, List.setIfInBounds_toArray, List.set_cons_zero, List.set_cons_succ]
      refine wpAnyH_ready (rs := [17]) (by kernel_rfl) (by simp) ?_
      refine (AllReadyH.cons (o := ⟨some 22, _, _, _, _, _⟩) (rs := []) rfl (fun K hK => ?_) AllReadyH.nil)
      have xV20 := heap_new V19 (.cells #[.int .u8 3, .int .i64 0, .string ⟨#[97]⟩, .int .u8 1, .int .i64 1, .string ⟨#[]⟩] 33)
      have cV20 := (Below.refl V19.heap.size V19).alloc (Nat.le_refl _) (.cells #[.int .u8 3, .int .i64 0, .string ⟨#[97]⟩, .int .u8 1, .int .i64 1, .string ⟨#[]⟩] 33)
      have bV20 := bV19.trans (cV20.mono bV19.size)
      obtain ⟨V20, eV20⟩ : ∃ V, V19.alloc (.cells #[.int .u8 3, .int .i64 0, .string ⟨#[97]⟩, .int .u8 1, .int .i64 1, .string ⟨#[]⟩] 33) = V := ⟨_, rfl⟩
      rw [eV20] at xV20 cV20 bV20
      obtain ⟨z0V20, z1V20, z2V20, z3V20, z4V20, z5V20, z6V20⟩ := Hkeep.out V20 bV20
      have hbV20 := hide z6V20.1
      have htV20 := hide z6V20.2
      clear z6V20
      go_simp
      clear eV20
      try go_wp2_with fail
      clear hHeld
      refine hK.out _ _ ?_ (fun hHeld => ?_)
      · (try dsimp only); go_keep
      clear hK K
      try simp only [Act.put, List.setIfInBounds_toArray, List.set_cons_zero, List.set_cons_succ]
      refine wpAnyH_ready (rs := [18]) (by kernel_rfl) (by simp) ?_
      refine (AllReadyH.cons (o := ⟨some 23, _, _, _, _, _⟩) (rs := []) rfl (fun K hK => ?_) AllReadyH.nil)
      go_simp
      go_at_call 10
      refine (fSN _ _ _ _ (pV19.below cV20) (vls_is vA vN okA okN xV20)).mono ?_
      rintro e V23 ⟨rfl, cV23⟩
      have bV23 := bV20.trans (cV23.mono bV20.size)
      obtain ⟨z0V23, z1V23, z2V23, z3V23, z4V23, z5V23, z6V23⟩ := Hkeep.out V23 bV23
      have hbV23 := hide z6V23.1
      have htV23 := hide z6V23.2
      clear z6V23
      try go_wp2_with fail
      clear hHeld
      refine hK.out _ _ ?_ (fun hHeld => ?_)
      · (try dsimp only); go_keep
      clear hK K
      try simp only [Act.put, List.setIfInBounds_toArray, List.set_cons_zero, List.set_cons_succ]
      refine wpAnyH_take (i := 19) (oi := ⟨some 24, _, _, _, _, _⟩) (v := ?v19q27) rfl (by kernel_rfl) (by kernel_rfl) (by kernel_rfl) (fun _ _ _ h => h) (Or.inl ⟨by rfl, ?h19q27⟩) (by assumption) ?r19q27
      case h19q27 => (intro w hSw; (try dsimp only at hSw); (first | (go_simp; done) | (go_simp; with_reducible rfl)))
      try simp only [Act.put, List.setIfInBounds_toArray, List.set_cons_zero, List.set_cons_succ]
      refine wpAnyH_take (i := 20) (oi := ⟨some 25, _, _, _, _, _⟩) (v := ?v20q28) rfl (by kernel_rfl) (by kernel_rfl) (by kernel_rfl) (fun _ _ _ h => h) (Or.inl ⟨by rfl, ?h20q28⟩) (by assumption) ?r20q28
      case h20q28 => (intro w hSw; (try dsimp only at hSw); (first | (go_simp; done) | (go_simp; with_reducible rfl)))
      try simp only [Act.put, List.setIfInBounds_toArray, List.set_cons_zero, List.set_cons_succ]
      refine wpAnyH_take (i := 21) (oi := ⟨some 26, _, _, _, _, _⟩) (v := ?v21q29) rfl (by kernel_rfl) (by kernel_rfl) (by kernel_rfl) (fun _ _ _ h => h) (Or.inl ⟨by rfl, ?h21q29⟩) (by assumption) ?r21q29
      case h21q29 => (intro w hSw; (try dsimp only at hSw); (first | (go_simp; done) | (go_simp; with_reducible rfl)))
      try simp only [Act.put, List.setIfInBounds_toArray, List.set_cons_zero, List.set_cons_succ]
      refine wpAnyH_ready (rs := [22]) (by kernel_rfl) (by simp) ?_
      refine (AllReadyH.cons (o := ⟨some 27, _, _, _, _, _⟩) (rs := []) rfl (fun K hK => ?_) AllReadyH.nil)
      go_simp
      go_at_call 24
      refine (person_any _).mono ?_
      rintro e V24 ⟨gV24, hV24, rfl, pV24, cV24⟩
      have bV24 := bV23.trans (cV24.mono bV23.size)
      obtain ⟨z0V24, z1V24, z2V24, z3V24, z4V24, z5V24, z6V24⟩ := Hkeep.out V24 bV24
      have hbV24 := hide z6V24.1
      have htV24 := hide z6V24.2
      clear z6V24
      try go_wp2_with fail
      clear hHeld
      refine hK.out _ _ ?_ (fun hHeld => ?_)
      · (try dsimp only); go_keep
      clear hK K
      try simp only [Act.put, List.setIfInBounds_toArray, List.set_cons_zero, List.set_cons_succ]
      refine wpAnyH_ready (rs := [23]) (by kernel_rfl) (by simp) ?_
      refine (AllReadyH.cons (o := ⟨some 28, _, _, _, _, _⟩) (rs := []) rfl (fun K hK => ?_) AllReadyH.nil)
      go_simp
      go_at_call 12
      refine (mP _ _ _ htV24.out pV24).mono ?_
      rintro e V25 ⟨rfl, cV25⟩
      have bV25 := bV24.trans (cV25.mono bV24.size)
      obtain ⟨z0V25, z1V25, z2V25, z3V25, z4V25, z5V25, z6V25⟩ := Hkeep.out V25 bV25
      have hbV25 := hide z6V25.1
      have htV25 := hide z6V25.2
      clear z6V25
      try go_wp2_with fail
      clear hHeld
      refine hK.out _ _ ?_ (fun hHeld => ?_)
      · (try dsimp only); go_keep
      clear hK K
      try simp only [Act.put, List.setIfInBounds_toArray, List.set_cons_zero, List.set_cons_succ]
      refine wpAnyH_take (i := 24) (oi := ⟨some 29, _, _, _, _, _⟩) (v := ?v24q30) rfl (by kernel_rfl) (by kernel_rfl) (by kernel_rfl) (fun _ _ _ h => h) (Or.inl ⟨by rfl, ?h24q30⟩) (by assumption) ?r24q30
      case h24q30 => (intro w hSw; (try dsimp only at hSw); (first | (go_simp; done) | (go_simp; with_reducible rfl)))
      try simp only [Act.put, List.setIfInBounds_toArray, List.set_cons_zero, List.set_cons_succ]
      refine wpAnyH_take (i := 25) (oi := ⟨some 0, _, _, _, _, _⟩) (v := ?v25q31) rfl (by kernel_rfl) (by kernel_rfl) (by kernel_rfl) (fun _ _ _ h => h) (Or.inl ⟨by rfl, ?h25q31⟩) (by assumption) ?r25q31
      case h25q31 => (intro w hSw; (try dsimp only at hSw); (first | (go_simp; done) | (go_simp; with_reducible rfl)))
      try simp only [Act.put, List.setIfInBounds_toArray, List.set_cons_zero]
      refine wpAnyH_done (by kernel_rfl) ?_ _
      refine NoPanic.normal ?_
      go_wp2
      go_ret
      exact ⟨rfl, hbV25.out⟩
    · have xV21 := heap_new V18 (.cells #[.int .u8 3, .int .i64 0, .string ⟨#[97]⟩, .int .u8 1, .int .i64 1, .string ⟨#[]⟩] 33)
      have cV21 := (Below.refl V18.heap.size V18).alloc (Nat.le_refl _) (.cells #[.int .u8 3, .int .i64 0, .string ⟨#[97]⟩, .int .u8 1, .int .i64 1, .string ⟨#[]⟩] 33)
      have bV21 := bV18.trans (cV21.mono bV18.size)
      obtain ⟨V21, eV21⟩ : ∃ V, V18.alloc (.cells #[.int .u8 3, .int .i64 0, .string ⟨#[97]⟩, .int .u8 1, .int .i64 1, .string ⟨#[]⟩] 33) = V := ⟨_, rfl⟩
      rw [eV21] at xV21 cV21 bV21
      obtain ⟨z0V21, z1V21, z2V21, z3V21, z4V21, z5V21, z6V21⟩ := Hkeep.out V21 bV21
      have hbV21 := hide z6V21.1
      have htV21 := hide z6V21.2
      clear z6V21
      go_simp
      clear eV21
      try go_wp2_with fail
      clear hHeld
      refine hK.out _ _ ?_ (fun hHeld => ?_)
      · (try dsimp only); go_keep
      clear hK K
      try simp only [Act.put, List.setIfInBounds_toArray, List.set_cons_zero, List.set_cons_succ]
      refine wpAnyH_ready (rs := [14]) (by kernel_rfl) (by simp) ?_
      refine (AllReadyH.cons (o := ⟨some 19, _, _, _, _, _⟩) (rs := []) rfl (fun K hK => ?_) AllReadyH.nil)
      go_simp
      go_at_call 24
      refine (person_any _).mono ?_
      rintro e V22 ⟨gV22, hV22, rfl, pV22, cV22⟩
      have bV22 := bV21.trans (cV22.mono bV21.size)
      obtain ⟨z0V22, z1V22, z2V22, z3V22, z4V22, z5V22, z6V22⟩ := Hkeep.out V22 bV22
      have hbV22 := hide z6V22.1
      have htV22 := hide z6V22.2
      clear z6V22
      try go_wp2_with fail
      clear hHeld
      refine hK.out _ _ ?_ (fun hHeld => ?_)
      · (try dsimp only); go_keep
      clear hK K
      try simp only [Act.put, List.setIfInBounds_toArray, List.set_cons_zero, List.set_cons_succ]
      refine wpAnyH_ready (rs := [18]) (by kernel_rfl) (by simp) ?_
      refine (AllReadyH.cons (o := ⟨some 23, _, _, _, _, _⟩) (rs := []) rfl (fun K hK => ?_) AllReadyH.nil)
      go_simp
      go_at_call 10
      refine (fSN _ _ _ _ pV22 (vls_is vA vN okA okN ((cV22.block _ (lt_of_block xV21)).trans xV21))).mono ?_
      rintro e V26 ⟨rfl, cV26⟩
      have bV26 := bV22.trans (cV26.mono bV22.size)
      obtain ⟨z0V26, z1V26, z2V26, z3V26, z4V26, z5V26, z6V26⟩ := Hkeep.out V26 bV26
      have hbV26 := hide z6V26.1
      have htV26 := hide z6V26.2
      clear z6V26
      try go_wp2_with fail
      clear hHeld
      refine hK.out _ _ ?_ (fun hHeld => ?_)
      · (try dsimp only); go_keep
      clear hK K
      try simp only [Act.put, List.setIfInBounds_toArray, List.set_cons_zero, List.set_cons_succ]
      refine wpAnyH_take (i := 19) (oi := ⟨some 24, _, _, _, _, _⟩) (v := ?v19q32) rfl (by kernel_rfl) (by kernel_rfl) (by kernel_rfl) (fun _ _ _ h => h) (Or.inl ⟨by rfl, ?h19q32⟩) (by assumption) ?r19q32
      case h19q32 => (intro w hSw; (try dsimp only at hSw); (first | (go_simp; done) | (go_simp; with_reducible rfl)))
      try simp only [Act.put, List.setIfInBounds_toArray, List.set_cons_zero, List.set_cons_succ]
      refine wpAnyH_take (i := 20) (oi := ⟨some 25, _, _, _, _, _⟩) (v := ?v20q33) rfl (by kernel_rfl) (by kernel_rfl) (by kernel_rfl) (fun _ _ _ h => h) (Or.inl ⟨by rfl, ?h20q33⟩) (by assumption) ?r20q33
      case h20q33 => (intro w hSw; (try dsimp only at hSw); (first | (go_simp; done) | (go_simp; with_reducible rfl)))
      try simp only [Act.put, List.setIfInBounds_toArray, List.set_cons_zero, List.set_cons_succ]
      refine wpAnyH_take (i := 21) (oi := ⟨some 26, _, _, _, _, _⟩) (v := ?v21q34) rfl (by kernel_rfl) (by kernel_rfl) (by kernel_rfl) (fun _ _ _ h => h) (Or.inl ⟨by rfl, ?h21q34⟩) (by assumption) ?r21q34
      case h21q34 => (intro w hSw; (try dsimp only at hSw); (first | (go_simp; done) | (go_simp; with_reducible rfl)))
      try simp only [Act.put, List.setIfInBounds_toArray, List.set_cons_zero, List.set_cons_succ]
      refine wpAnyH_ready (rs := [22]) (by kernel_rfl) (by simp) ?_
      refine (AllReadyH.cons (o := ⟨some 27, _, _, _, _, _⟩) (rs := []) rfl (fun K hK => ?_) AllReadyH.nil)
      go_simp
      go_at_call 24
      refine (person_any _).mono ?_
      rintro e V27 ⟨gV27, hV27, rfl, pV27, cV27⟩
      have bV27 := bV26.trans (cV27.mono bV26.size)
      obtain ⟨z0V27, z1V27, z2V27, z3V27, z4V27, z5V27, z6V27⟩ := Hkeep.out V27 bV27
      have hbV27 := hide z6V27.1
      have htV27 := hide z6V27.2
      clear z6V27
      try go_wp2_with fail
      clear hHeld
      refine hK.out _ _ ?_ (fun hHeld => ?_)
      · (try dsimp only); go_keep
      clear hK K
      try simp only [Act.put, List.setIfInBounds_toArray, List.set_cons_zero, List.set_cons_succ]
      refine wpAnyH_ready (rs := [23]) (by kernel_rfl) (by simp) ?_
      refine (AllReadyH.cons (o := ⟨some 28, _, _, _, _, _⟩) (rs := []) rfl (fun K hK => ?_) AllReadyH.nil)
      go_simp
      go_at_call 12
      refine (mP _ _ _ htV27.out pV27).mono ?_
      rintro e V28 ⟨rfl, cV28⟩
      have bV28 := bV27.trans (cV28.mono bV27.size)
      obtain ⟨z0V28, z1V28, z2V28, z3V28, z4V28, z5V28, z6V28⟩ := Hkeep.out V28 bV28
      have hbV28 := hide z6V28.1
      have htV28 := hide z6V28.2
      clear z6V28
      try go_wp2_with fail
      clear hHeld
      refine hK.out _ _ ?_ (fun hHeld => ?_)
      · (try dsimp only); go_keep
      clear hK K
      try simp only [Act.put, List.setIfInBounds_toArray, List.set_cons_zero, List.set_cons_succ]
      refine wpAnyH_take (i := 24) (oi := ⟨some 29, _, _, _, _, _⟩) (v := ?v24q35) rfl (by kernel_rfl) (by kernel_rfl) (by kernel_rfl) (fun _ _ _ h => h) (Or.inl ⟨by rfl, ?h24q35⟩) (by assumption) ?r24q35
      case h24q35 => (intro w hSw; (try dsimp only at hSw); (first | (go_simp; done) | (go_simp; with_reducible rfl)))
      try simp only [Act.put, List.setIfInBounds_toArray, List.set_cons_zero, List.set_cons_succ]
      refine wpAnyH_take (i := 25) (oi := ⟨some 0, _, _, _, _, _⟩) (v := ?v25q36) rfl (by kernel_rfl) (by kernel_rfl) (by kernel_rfl) (fun _ _ _ h => h) (Or.inl ⟨by rfl, ?h25q36⟩) (by assumption) ?r25q36
      case h25q36 => (intro w hSw; (try dsimp only at hSw); (first | (go_simp; done) | (go_simp; with_reducible rfl)))
      try simp only [Act.put, List.setIfInBounds_toArray, List.set_cons_zero]
      refine wpAnyH_done (by kernel_rfl) ?_ _
      refine NoPanic.normal ?_
      go_wp2
      go_ret
      exact ⟨rfl, hbV28.out⟩

end Go.Proofs.YteealadflekffaaDoor
