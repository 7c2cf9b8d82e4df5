import Derived.Test.YtcpddgkloeklaaaGreatDoorIdx
import Derived.Test.YtcpddgkloeklaaaGreatDoorListL
import Derived.Test.YtcpddgkloeklaaaGreatDoorRises
/- Claims with some indices, and indices that a list does not have: what both sides speak of. -/
set_option linter.unusedSimpArgs false
set_option linter.unusedVariables false
namespace Go.Proofs.YtcpddgkloeklaaaGreatDoor
open Go.RowKit
/-- The claims with some indices. -/
def pick (L : List Clm) (S : List Int) : List Clm := S.filterMap fun i => L[i.toNat]?
theorem pick_snoc {L : List Clm} {S : List Int} {x : Int} (h : x.toNat < L.length) : pick L (S ++ [x]) = pick L S ++ [L[x.toNat]] := by
  simp [pick, List.filterMap_append, List.getElem?_eq_getElem h]
theorem pick_take {L : List Clm} {S : List Int} {k : Nat} (hk : k < S.length) (h : S[k].toNat < L.length) : pick L (S.take (k + 1)) = pick L (S.take k) ++ [L[S[k].toNat]] := by
  rw [← List.take_append_getElem hk, pick_snoc h]
theorem pick_le (L : List Clm) (S : List Int) : (pick L S).length ≤ S.length := List.length_filterMap_le _ _
theorem pick_take_le (L : List Clm) (S : List Int) (k : Nat) (hk : k ≤ S.length) : (pick L (S.take k)).length ≤ k := by
  have := pick_le L (S.take k)
  rw [List.length_take] at this
  omega
theorem pick_mem {L : List Clm} {S : List Int} {c : Clm} (h : c ∈ pick L S) : c ∈ L := by
  unfold pick at h
  rw [List.mem_filterMap] at h
  obtain ⟨i, _, hi⟩ := h
  exact List.mem_of_getElem? hi
/-- All are indices of a list of `n`. -/
def Within (n : Nat) (S : List Int) : Prop := ∀ x ∈ S, 0 ≤ x ∧ x < n
theorem within_of_rises {n : Nat} {S : List Int} (h : Rises S n) : Within n S := fun x hx => by
  obtain ⟨i, hi, rfl⟩ := List.mem_iff_getElem.1 hx
  obtain ⟨x, h1, h2, h3, _⟩ := h i hi
  rw [List.getElem?_eq_getElem hi] at h1
  obtain rfl := Option.some.inj h1
  exact ⟨h2, by omega⟩
theorem Within.at_ {n : Nat} {S : List Int} (h : Within n S) {k : Nat} (hk : k < S.length) : 0 ≤ S[k] ∧ S[k] < n := h _ (List.getElem_mem hk)
theorem Within.sub {n : Nat} {S T : List Int} (h : Within n S) (hs : ∀ x ∈ T, x ∈ S) : Within n T := fun x hx => h x (hs x hx)
/-- The indices below `k` that a list does not have. -/
def restTo (S : List Int) (k : Nat) : List Int := ((List.range k).map fun (i : Nat) => (i : Int)).filter fun i => !S.contains i
theorem restTo_zero (S : List Int) : restTo S 0 = [] := rfl
theorem restTo_yes {S : List Int} {k : Nat} (h : S.contains (k : Int) = false) : restTo S (k + 1) = restTo S k ++ [(k : Int)] := by
  simp only [restTo, List.range_succ, List.map_append, List.map_cons, List.map_nil, List.filter_append]
  rw [List.filter_cons_of_pos (by simp only [h]; rfl), List.filter_nil]
theorem restTo_no {S : List Int} {k : Nat} (h : S.contains (k : Int) = true) : restTo S (k + 1) = restTo S k := by
  simp only [restTo, List.range_succ, List.map_append, List.map_cons, List.map_nil, List.filter_append]
  rw [List.filter_cons_of_neg (by simp only [h]; simp), List.filter_nil, List.append_nil]
theorem restTo_le (S : List Int) (k : Nat) : (restTo S k).length ≤ k := by
  unfold restTo
  have := List.length_filter_le (fun i => !S.contains i) ((List.range k).map fun (i : Nat) => (i : Int))
  simpa using this
theorem restTo_within (S : List Int) (k : Nat) : Within k (restTo S k) := fun x hx => by
  unfold restTo at hx
  have := (List.mem_filter.1 hx).1
  rw [List.mem_map] at this
  obtain ⟨i, hi, rfl⟩ := this
  have := List.mem_range.1 hi
  omega
theorem pick_rest_yes {L : List Clm} {S : List Int} {k : Nat} (hk : k < L.length) (h : S.contains (k : Int) = false) : pick L (restTo S (k + 1)) = pick L (restTo S k) ++ [L[k]] := by
  rw [restTo_yes h, pick_snoc (by simpa using hk)]
  simp
theorem pick_rest_no {L : List Clm} {S : List Int} {k : Nat} (h : S.contains (k : Int) = true) : pick L (restTo S (k + 1)) = pick L (restTo S k) := by rw [restTo_no h]
theorem pick_rest_le (L : List Clm) (S : List Int) (k : Nat) : (pick L (restTo S k)).length ≤ k := Nat.le_trans (pick_le _ _) (restTo_le _ _)
/-- The claims that are left if some are removed. -/
def keptL (L : List Clm) (S : List Int) : List Clm := pick L (restTo S L.length)
theorem keptL_le (L : List Clm) (S : List Int) : (keptL L S).length ≤ L.length := pick_rest_le _ _ _
theorem one_clm1 (c : Clm) : ∀ u ∈ clmCells c, u.oneCell' = true := by intro u hu; simp [clmCells] at hu; rcases hu with rfl | rfl | rfl | rfl | rfl | rfl | rfl <;> rfl
theorem clmsCells_snoc (L : List Clm) (c : Clm) : clmsCells (L ++ [c]) = clmsCells L ++ clmCells c := by rw [clmsCells_append]; simp [clmsCells]
/-- Whether a list has a number: the first place, -1 if there is none. -/
def idxI (x : Int) (S : List Int) : Int := match S.findIdx? (fun y => decide (y = x)) with
  | some i => i
  | none => -1
theorem idxI_none {x : Int} {S : List Int} (h : ∀ j (hj : j < S.length), S[j] ≠ x) : idxI x S = -1 := by
  have : S.findIdx? (fun y => decide (y = x)) = none := by
    rw [List.findIdx?_eq_none_iff]
    intro z hz
    obtain ⟨j, hj, rfl⟩ := List.mem_iff_getElem.1 hz
    simpa using h j hj
  simp [idxI, this]
theorem idxI_some {x : Int} {S : List Int} {k : Nat} (hk : k < S.length) (h1 : S[k] = x) (h : ∀ j (hj : j < S.length), j < k → S[j] ≠ x) : idxI x S = k := by
  have : S.findIdx? (fun y => decide (y = x)) = some k := by
    rw [List.findIdx?_eq_some_iff_getElem]
    exact ⟨hk, by simpa using h1, fun j hj => by simpa using h j (by omega) hj⟩
  simp [idxI, this]
theorem idxI_mem (x : Int) (S : List Int) : decide (0 ≤ idxI x S) = S.contains x := by
  unfold idxI
  cases h : S.findIdx? (fun y => decide (y = x)) with
  | none =>
    rw [List.findIdx?_eq_none_iff] at h
    have : S.contains x = false := by
      rw [Bool.eq_false_iff]
      intro hc
      rw [List.contains_iff_mem] at hc
      simpa using h x hc
    rw [this]; simp
  | some i =>
    rw [List.findIdx?_eq_some_iff_getElem] at h
    obtain ⟨hi, hp, _⟩ := h
    have e : S[i] = x := by simpa using hp
    have : S.contains x = true := by rw [List.contains_iff_mem]; exact e ▸ List.getElem_mem hi
    rw [this]; simp
theorem contains_false {S : List Int} {x : Int} (h : ∀ j (hj : j < S.length), S[j] ≠ x) : S.contains x = false := by
  rw [Bool.eq_false_iff]
  intro hc
  rw [List.contains_iff_mem] at hc
  obtain ⟨j, hj, e⟩ := List.mem_iff_getElem.1 hc
  exact h j hj e
theorem contains_true {S : List Int} {x : Int} {j : Nat} (hj : j < S.length) (h : S[j] = x) : S.contains x = true := by
  rw [List.contains_iff_mem]; exact h ▸ List.getElem_mem hj
end Go.Proofs.YtcpddgkloeklaaaGreatDoor
