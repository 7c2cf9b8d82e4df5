import Derived.Test.YtflcfdiochohgaaGreatDoorPackH
/- The smallest sources in the law that draws: the plain law. -/
set_option linter.unusedSimpArgs false
set_option linter.unusedVariables false
namespace Go.Proofs.YtflcfdiochohgaaGreatDoor
/-- Whether a text is among the first `j`, but for the `k`-th. -/
def anyTo (Z : List ByteArray) (k : Int) (s : ByteArray) : Nat → Bool
  | 0 => false
  | j + 1 => anyTo Z k s j || (decide ((j : Int) ≠ k) && decide (s = Z.getD j ByteArray.empty))
theorem anyTo_iff {Z : List ByteArray} {k : Int} {s : ByteArray} : ∀ {j : Nat}, anyTo Z k s j = true ↔ ∃ i, i < j ∧ (i : Int) ≠ k ∧ s = Z.getD i ByteArray.empty
  | 0 => by simp [anyTo]
  | j + 1 => by
    rw [anyTo, Bool.or_eq_true, anyTo_iff, Bool.and_eq_true, decide_eq_true_eq, decide_eq_true_eq]
    constructor
    · rintro (⟨i, h1, h2, h3⟩ | ⟨h2, h3⟩)
      · exact ⟨i, by omega, h2, h3⟩
      · exact ⟨j, by omega, h2, h3⟩
    · rintro ⟨i, h1, h2, h3⟩
      rcases Nat.lt_or_ge i j with h | h
      · exact .inl ⟨i, h, h2, h3⟩
      · obtain rfl : i = j := by omega
        exact .inr ⟨h2, h3⟩
theorem anyTo_once {Z : List ByteArray} {k : Int} {s : ByteArray} {j : Nat} (hZ : Z.Nodup) (hj : j < Z.length) (h : s = Z.getD j ByteArray.empty) : anyTo Z k s j = false := by
  cases hc : anyTo Z k s j
  · rfl
  · exfalso
    obtain ⟨i, h1, h2, h3⟩ := anyTo_iff.1 hc
    rw [getD_at (by omega)] at h3
    rw [getD_at hj] at h
    have := (List.getElem_inj hZ).1 (h3.symm.trans h)
    omega
theorem anyTo_yes {Z : List ByteArray} {k : Int} {s : ByteArray} {j : Nat} (h1 : (j : Int) ≠ k) (h : s = Z.getD j ByteArray.empty) : anyTo Z k s (j + 1) = true := anyTo_iff.2 ⟨j, by omega, h1, h⟩
theorem anyTo_skip {Z : List ByteArray} {k : Int} {s : ByteArray} {j : Nat} (h1 : (j : Int) = k) : anyTo Z k s (j + 1) = anyTo Z k s j := by simp [anyTo, h1]
theorem anyTo_no {Z : List ByteArray} {k : Int} {s : ByteArray} {j : Nat} (h : ¬ s = Z.getD j ByteArray.empty) : anyTo Z k s (j + 1) = anyTo Z k s j := by simp only [anyTo, h, decide_false, Bool.and_false, Bool.or_false]
/-- The claims of the chosen sources, but for the `k`-th. -/
def srcP (Z : List ByteArray) (k : Int) (c : Clm) : Bool := anyTo Z k c.src Z.length
theorem pick_idxsTo (L : List Clm) (p : Clm → Bool) : ∀ i, i ≤ L.length → pick L (idxsTo p L i) = (L.take i).filter p
  | 0, _ => by simp [idxsTo_zero, pick]
  | i + 1, h => by
    have ih := pick_idxsTo L p i (by omega)
    rw [List.take_succ_eq_append_getElem (by omega), List.filter_append]
    cases hp : p L[i]
    · rw [idxsTo_no (by omega) hp, ih]
      simp [hp]
    · rw [idxsTo_yes (by omega) hp, pick_snoc (by simpa using (by omega : i < L.length)), ih]
      simp [hp]
theorem pick_idxs (L : List Clm) (p : Clm → Bool) : pick L (idxs p L) = L.filter p := by
  unfold idxs
  rw [pick_idxsTo L p _ (Nat.le_refl _), List.take_length]
theorem ixs_idxs (p : Clm → Bool) (L : List Clm) : Ixs L.length (idxs p L) := by
  unfold idxs idxsTo
  refine ⟨?_, fun x hx => ?_⟩
  · rw [List.pairwise_map]
    refine (List.Pairwise.sublist List.filter_sublist List.pairwise_lt_range).imp fun h => ?_
    omega
  · rw [List.mem_map] at hx
    obtain ⟨i, hi, rfl⟩ := hx
    have := List.mem_range.1 (List.mem_filter.1 hi).1
    omega
theorem hasS_iff {Z : List ByteArray} {x : ByteArray} : hasS Z x = true ↔ x ∈ Z := by
  unfold hasS
  rw [decide_eq_true_iff]
  rcases idxS_cases x Z with ⟨h1, h2⟩ | ⟨h1, h2⟩
  · exact ⟨fun _ => h1, fun _ => h2⟩
  · exact ⟨fun h => by omega, fun h => absurd h h1⟩
theorem srcP_all (Z : List ByteArray) (c : Clm) : srcP Z (-1) c = hasS Z c.src := by
  unfold srcP
  rw [Bool.eq_iff_iff, anyTo_iff, hasS_iff]
  constructor
  · rintro ⟨i, h1, _, h3⟩
    rw [getD_at h1] at h3
    exact h3 ▸ List.getElem_mem h1
  · intro h
    obtain ⟨i, hi, e⟩ := List.mem_iff_getElem.1 h
    exact ⟨i, hi, by omega, by rw [getD_at hi]; exact e.symm⟩
theorem srcP_but (Z : List ByteArray) (k : Nat) (c : Clm) : srcP Z k c = hasS (Z.eraseIdx k) c.src := by
  unfold srcP
  rw [Bool.eq_iff_iff, anyTo_iff, hasS_iff, List.mem_eraseIdx_iff_getElem]
  constructor
  · rintro ⟨i, h1, h2, h3⟩
    rw [getD_at h1] at h3
    exact ⟨i, h1, by omega, h3.symm⟩
  · rintro ⟨i, hi, hne, e⟩
    exact ⟨i, hi, by omega, by rw [getD_at hi]; exact e.symm⟩
theorem sms_least {L : List Clm} (hc : consB L = false) : IsLeast (srcG L) (srcs L).length (smsB L (2 ^ (srcs L).length)) := bestB_least (ixs_rest [] _) (srcG_full hc)
theorem pickS_nodup {L : List Clm} {T : List Int} (hT : Ixs (srcs L).length T) : (pickS (srcs L) T).Nodup := by
  unfold pickS
  rw [List.nodup_iff_pairwise_ne, List.pairwise_map]
  refine List.Pairwise.imp_of_mem (fun {x y} hx hy hlt he => ?_) hT.inc
  have h1 := hT.bd x hx
  have h2 := hT.bd y hy
  rw [getD_at (by omega), getD_at (by omega)] at he
  have := keyAt (srcs_keys L) (x := x.toNat) (y := y.toNat) (by omega) (by omega) (by omega)
  rw [he] at this
  exact klt_irrefl _ this
theorem map_erase {α β : Type} (f : α → β) : ∀ (l : List α) (k : Nat), (l.map f).eraseIdx k = (l.eraseIdx k).map f
  | [], _ => rfl
  | _ :: _, 0 => rfl
  | x :: l, k + 1 => by simp [map_erase f l k]
/-- What the law asks of the smallest sources. -/
theorem sms_law {L : List Clm} (hv : claimsB L = true) (hc : consB L = false) : (smsR L).Nodup ∧ consB (pick L (idxs (srcP (smsR L) (-1)) L)) = false ∧ ∀ k, k < (smsR L).length → consB (pick L (idxs (srcP (smsR L) (k : Int)) L)) = true := by
  obtain ⟨h1, h2, h3⟩ := sms_least hc
  have e : smsR L = pickS (srcs L) (smsB L (2 ^ (srcs L).length)) := by unfold smsR; rw [hv, hc]; rfl
  obtain ⟨T, hT⟩ : ∃ T, smsB L (2 ^ (srcs L).length) = T := ⟨_, rfl⟩
  rw [hT] at h1 h2 h3 e
  rw [e]
  refine ⟨pickS_nodup h1, ?_, fun k hk => ?_⟩
  · rw [pick_idxs]
    have : L.filter (srcP (pickS (srcs L) T) (-1)) = bySrc L (pickS (srcs L) T) := List.filter_congr fun c _ => srcP_all _ c
    rw [this]
    unfold srcG at h2
    simpa using h2
  · rw [pick_idxs]
    have e2 : (pickS (srcs L) T).eraseIdx k = pickS (srcs L) (T.eraseIdx k) := by unfold pickS; rw [map_erase]
    have : L.filter (srcP (pickS (srcs L) T) (k : Int)) = bySrc L (pickS (srcs L) (T.eraseIdx k)) := List.filter_congr fun c _ => by rw [srcP_but, e2]
    rw [this]
    rw [pickS_len] at hk
    cases hcc : consB (bySrc L (pickS (srcs L) (T.eraseIdx k)))
    · exfalso
      have hg : srcG L (T.eraseIdx k) = true := by unfold srcG; rw [hcc]; rfl
      have h4 := h3 _ (ixs_erase h1 k) hg
      have h5 : coreLt (T.eraseIdx k) T = true := coreLt_iff.2 (.inl (by rw [List.length_eraseIdx_of_lt hk]; omega))
      rw [h4] at h5
      cases h5
    · rfl
end Go.Proofs.YtflcfdiochohgaaGreatDoor
