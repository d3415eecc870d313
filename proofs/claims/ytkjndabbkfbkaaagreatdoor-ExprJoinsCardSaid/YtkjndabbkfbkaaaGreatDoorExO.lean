/- Nodes that are laid one by one into a row of one's own; parts of slices of nodes. -/
import Derived.Test.YtkjndabbkfbkaaaGreatDoorExX
import Derived.Test.YtkjndabbkfbkaaaGreatDoorExA
namespace Go.Proofs.YtkjndabbkfbkaaaGreatDoor
open Go Go.RowKit Go.Lib Go.Sort Go.Shelf

/-- What own nodes look like, if there are some. -/
theorem TrIs.form {w : World} {B : Nat} {X : List Nat} {v : Value} {nds : List Nd} (h : TrIs w B X v nds) (hn : 0 < nds.length) : ∃ g c, v = .slice (some ⟨g, 0, none⟩) nds.length c ∧ nds.length ≤ c ∧ B ≤ g := by
  obtain ⟨kvs, h1, _⟩ := h
  rcases h1.2 with ⟨_, h0⟩ | ⟨g, cap, cur, rfl, hB, _, hc, _⟩
  · omega
  · exact ⟨g, cap, rfl, hc, hB⟩
theorem TrIs.slice {w : World} {B : Nat} {X : List Nat} {v : Value} {nds : List Nd} (h : TrIs w B X v nds) : ∃ a c, v = .slice a nds.length c := by
  obtain ⟨kvs, h1, _⟩ := h
  exact row_form h1
theorem TrIs.nil (w : World) (B : Nat) : TrIs w B [] (.slice none 0 0) [] := ⟨[], World.ownsRow_nil w B 34 8, trivial⟩
/-- A part of a slice of nodes. -/
theorem TrZ.part {w : World} {b off n c m c' lo : Nat} {l : List Nz} (h : TrZ w (.slice (some ⟨b, off, none⟩) n c) l) (hm : lo + m ≤ l.length) : TrZ w (.slice (some ⟨b, off + lo * 8, none⟩) m c') ((l.drop lo).take m) := by
  obtain ⟨h1, a, c0, e, h2⟩ := h
  injection e with e1 _ _
  have hl : ((l.drop lo).take m).length = m := by rw [List.length_take, List.length_drop]; omega
  refine ⟨by omega, some ⟨b, off + lo * 8, none⟩, c', by rw [hl], fun i hi => ?_⟩
  rw [hl] at hi
  obtain ⟨b', off', kv, e', hn, hk⟩ := h2 (lo + i) (by omega)
  rw [← e1] at e'
  injection e' with e'
  injection e' with e3 e4
  subst e3 e4
  have he : ((l.drop lo).take m)[i] = l[lo + i] := by rw [List.getElem_take, List.getElem_drop]
  refine ⟨b, off + lo * 8, kv, rfl, ?_, ?_⟩
  · rw [he, show off + lo * 8 + i * 8 = off + (lo + i) * 8 by omega]
    exact hn
  · rw [he]
    exact hk
/-- A node more in an own row. -/
theorem tris_lay {w X Z : World} {B : Nat} {v v' kv : Value} {kvs : List Value} {nds : List Nd} {n : Nd} (hk1 : w.ownsRow B 34 8 v nds.length (nflat kvs nds)) (hk2 : KidsAre w B [] kvs nds) (hbw : Below w.heap.size w X)
    (hkv : X.ownsRow w.heap.size 3 1 kv n.kids.length (nums n.kids)) (hB : B ≤ w.heap.size) (hg : X.grownBy Z v.ownBlock) (hown : Z.ownsRow B 34 8 v' (nds.length + 1) (nflat kvs nds ++ nflat [kv] [n])) : TrIs Z B [] v' (nds ++ [n]) := by
  have hX : Only v.ownBlock.toList w Z := (Only.of_below hbw _).trans (Only.of_grown hg _ fun k hk => by simp [hk])
  have hvb : ∀ g, v.ownBlock = some g → g < w.heap.size := fun g e => by
    rcases hk1.2 with ⟨e2, _⟩ | ⟨g', cap, cur, e2, _, hg', _⟩
    · rw [e2] at e; cases e
    · rw [e2] at e
      simp only [Value.ownBlock, Option.some.injEq] at e
      subst e
      exact lt_of_heap hg'
  refine ⟨kvs ++ [kv], ?_, KidsAre.snoc (hk2.imp fun u k xs hn q => ⟨owns_only q hX fun g e hm => ?_, hn⟩) ⟨owns_base (owns_only hkv (Only.of_grown hg v.ownBlock.toList fun k hk => by simp [hk]) fun g e hm => ?_) hB, fun _ _ h => by cases h⟩⟩
  · rw [nflat_snoc hk2.len]
    simpa using hown
  · have hm' : v.ownBlock = some g := by simpa using hm
    rcases q.2 with ⟨rfl, _⟩ | ⟨g', cap, cur, rfl, _, hg', _⟩
    · cases e
    · simp only [Value.ownBlock, Option.some.injEq] at e
      subst e
      exact owns_not hk1 hg' (by decide) hm'
  · have h1 := row_own hkv g e
    have h2 := hvb g (by simpa using hm)
    omega
theorem below_grown {B : Nat} {a b c : World} {v : Value} (h : Below B a b) (hg : b.grownBy c v.ownBlock) (hv : ∀ g, v.ownBlock = some g → B ≤ g) (hB : B ≤ b.heap.size) : Below B a c :=
  below_only h (Only.of_grown hg v.ownBlock.toList fun k hk => by simp [hk]) (fun i hi => hv i (by simpa using hi)) hB
/-- A tree's nodes further on, as they are read. -/
theorem up_get (b : Ex) (k i : Nat) (hi : i < b.size) : ∃ n, (b.flat 0)[i]? = some n ∧ (b.flat k)[i]? = some (n.up k) := by
  have h1 : i < (b.flat 0).length := by rw [Ex.flat_len]; exact hi
  refine ⟨(b.flat 0)[i], List.getElem?_eq_getElem h1, ?_⟩
  rw [Ex.flat_at b k, List.getElem?_map, List.getElem?_eq_getElem h1]
  rfl
theorem TrZ.get {w : World} {b off n c i : Nat} {l : List Nz} {x : Nz} (h : TrZ w (.slice (some ⟨b, off, none⟩) n c) l) (hx : l[i]? = some x) : ∃ kv, NodeAt w b (off + i * 8) x.h kv ∧ IntsRd w kv x.kids := by
  obtain ⟨h1, a, c0, e, h2⟩ := h
  injection e with e1 _ _
  obtain ⟨hi, rfl⟩ := List.getElem?_eq_some_iff.1 hx
  obtain ⟨b', off', kv, e', hn, hk⟩ := h2 i hi
  rw [← e1] at e'
  injection e' with e'
  injection e' with e3 e4
  subst e3 e4
  exact ⟨kv, hn, hk⟩
theorem pair_get {h : Hd} {a b : Ex} {k i : Nat} (hk : a.size = k) (hi : i < b.size) : ∃ n, (b.flat 0)[i]? = some n ∧ (((Ex.mk h [a, b]).flat 0).map Nd.z)[k + i]? = some (Nd.z (n.up k)) := by
  obtain ⟨n, h1, h2⟩ := up_get b k i hi
  refine ⟨n, h1, ?_⟩
  have h3 : (((b.flat 0).map (Nd.up k)).map Nd.z)[i]? = some (Nd.z (n.up k)) := by rw [List.getElem?_map, List.getElem?_map, h1]; rfl
  rw [flat_pair, hk, List.map_append, List.map_append, List.getElem?_append_right (by rw [List.length_map, Ex.flat_len]; omega), List.length_map, Ex.flat_len, hk, Nat.add_sub_cancel_left, List.getElem?_append_left (by rw [List.length_map, List.length_map, Ex.flat_len]; exact hi)]
  exact h3
theorem pair_last {h : Hd} {a b : Ex} {k m : Nat} (hk : a.size = k) (hm : b.size = m) : (((Ex.mk h [a, b]).flat 0).map Nd.z)[k + m]? = some (Nd.z ⟨h, [k - 1, k + m - 1]⟩) := by
  rw [flat_pair, hk, hm, List.map_append, List.map_append, List.getElem?_append_right (by rw [List.length_map, Ex.flat_len]; omega), List.length_map, Ex.flat_len, hk, Nat.add_sub_cancel_left, List.getElem?_append_right (by rw [List.length_map, List.length_map, Ex.flat_len]; omega), List.length_map, List.length_map, Ex.flat_len, hm, Nat.sub_self]
  rfl
theorem ints_up {w : World} {x : Value} {kids : List Nat} {k : Nat} {h : Hd} (q : IntsRd w x (Nd.z (Nd.up k ⟨h, kids⟩)).kids) : ∃ a c, x = .slice a kids.length c ∧ ∀ (j v : Nat), kids[j]? = some v → ∃ b off, a = some ⟨b, off, none⟩ ∧ w.cell? ⟨b, off + j, none⟩ = some (.int .i64 ((v : Int) + (k : Int))) := by
  obtain ⟨_, a, c, rfl, h2⟩ := q
  refine ⟨a, c, by simp [Nd.z, Nd.up], fun j v hj => ?_⟩
  obtain ⟨hj1, rfl⟩ := List.getElem?_eq_some_iff.1 hj
  obtain ⟨b, off, e, hc⟩ := h2 j (by simpa [Nd.z, Nd.up] using hj1)
  refine ⟨b, off, e, ?_⟩
  rw [hc]
  simp [Nd.z, Nd.up]
theorem slim_bare {a b : Ex} (h : a.bare = b.bare) (hs : Slim (b.flat 0)) : Slim (a.flat 0) := fun n hn => by
  have h1 : n.bare ∈ (b.flat 0).map Nd.bare := by rw [← flat_bare h 0]; exact List.mem_map_of_mem hn
  obtain ⟨m, h2, h3⟩ := List.mem_map.1 h1
  have h4 : m.bare.kids = n.bare.kids := congrArg Nd.kids h3
  have h5 : m.kids = n.kids := h4
  rw [← h5]
  exact hs m h2
theorem kidsAll_mem : ∀ {l : List Nd} {n : Nd} {v : Nat}, n ∈ l → v ∈ n.kids → v ∈ kidsAll l
  | [], _, _, h, _ => by cases h
  | x :: l, n, v, h, hv => by
    show v ∈ x.kids ++ kidsAll l
    rcases List.mem_cons.1 h with rfl | h
    · exact List.mem_append.2 (.inl hv)
    · exact List.mem_append.2 (.inr (kidsAll_mem h hv))
theorem kid_lt {e : Ex} {n : Nd} {i v : Nat} (h : (e.flat 0)[i]? = some n) (hv : v ∈ n.kids) : v + 1 < e.size := by
  have h1 := List.count_pos_iff.2 (kidsAll_mem (List.mem_of_getElem? h) hv)
  rw [Ex.counts] at h1
  split at h1 <;> omega
theorem nums_snoc (l : List Nat) (x : Nat) : nums (l ++ [x]) = nums l ++ [.int .i64 (x : Int)] := by simp [nums]
theorem nums_len (l : List Nat) : (nums l).length = l.length := by simp [nums]
end Go.Proofs.YtkjndabbkfbkaaaGreatDoor
