import Derived.Test.YtflcfdiochohgaaGreatDoorPackE
import Derived.Test.YtflcfdiochohgaaGreatDoorPackF
import Derived.Test.YtflcfdiochohgaaGreatDoorPairs
/- Repairs and cores in the laws that draw: the plain law. -/
set_option linter.unusedSimpArgs false
set_option linter.unusedVariables false
namespace Go.Proofs.YtflcfdiochohgaaGreatDoor
theorem minI_least {lt : List Int → List Int → Bool} {f : List Int → Int} (h1 : ∀ x y, lt x y = true → f x ≤ f y) (h2 : ∀ x y, lt x y = false → f y ≤ f x) (S : List (List Int)) : ∀ k j, j ≤ k → f (S.getD (minI lt S k) []) ≤ f (S.getD j [])
  | 0, j, h => by
    obtain rfl : j = 0 := by omega
    exact Int.le_refl _
  | k + 1, j, h => by
    have ih := minI_least h1 h2 S k
    cases hc : lt (S.getD (k + 1) []) (S.getD (minI lt S k) [])
    · rw [minI_no hc]
      rcases Nat.lt_or_ge k j with hj | hj
      · obtain rfl : j = k + 1 := by omega
        exact h2 _ _ hc
      · exact ih j hj
    · rw [minI_yes hc]
      rcases Nat.lt_or_ge k j with hj | hj
      · obtain rfl : j = k + 1 := by omega
        exact Int.le_refl _
      · exact Int.le_trans (h1 _ _ hc) (ih j hj)
theorem bestL_least {lt : List Int → List Int → Bool} {f : List Int → Int} (h1 : ∀ x y, lt x y = true → f x ≤ f y) (h2 : ∀ x y, lt x y = false → f y ≤ f x) {S : List (List Int)} {T : List Int} (hT : T ∈ S) : f (bestL lt S) ≤ f T := by
  obtain ⟨j, hj, rfl⟩ := List.mem_iff_getElem.1 hT
  have := minI_least h1 h2 S (S.length - 1) j (by omega)
  rwa [getD_at hj] at this
theorem best_light {L : List Clm} {S : List (List Int)} {T : List Int} (hT : T ∈ S) : wtZ L (bestL (wtLt L) S) ≤ wtZ L T :=
  bestL_least (f := fun x => wtZ L x) (fun x y h => by
    unfold wtLt at h
    simp only [Bool.or_eq_true, Bool.and_eq_true, decide_eq_true_eq] at h
    omega) (fun x y h => by
    unfold wtLt at h
    simp only [Bool.or_eq_false_iff, decide_eq_false_iff_not] at h
    omega) hT
theorem leastTo_all {R : List (List Int)} {n : Nat} : ∀ k j, j < k → leastTo R n k ≤ (atL R j).length
  | 0, j, h => by omega
  | k + 1, j, h => by
    rw [leastTo]
    rcases Nat.lt_or_ge j k with hj | hj
    · have := leastTo_all (R := R) (n := n) k j hj
      omega
    · obtain rfl : j = k := by omega
      omega
/-! ### What shrinking leaves is least -/
theorem erase_twice {n : Nat} {S : List Int} (h : Ixs n S) {i j : Nat} (hj : j < i) (hi : i < S.length) : ((S.eraseIdx i).eraseIdx j).Sublist (S.eraseIdx j) := by
  have h1 : Ixs n (S.eraseIdx i) := ixs_erase h i
  have hl := List.length_eraseIdx_of_lt hi
  refine sorted_sub (ixs_erase h1 j).inc (ixs_erase h j).inc fun x hx => ?_
  have hj1 : j < (S.eraseIdx i).length := by omega
  have hj2 : j < S.length := by omega
  rw [mem_erase_ix h1 hj1, mem_erase_ix h hi] at hx
  rw [mem_erase_ix h hj2]
  refine ⟨hx.1.1, fun e => hx.2 ?_⟩
  rw [e, List.getElem_eraseIdx, dif_pos hj]
theorem shrinkL_min {n : Nat} {G : List Int → Bool} (hG : Mono n G) : ∀ (f : Nat) (out : List Int) (i : Nat), out.length - i ≤ f → Ixs n out → G out = true → (∀ j, j < i → j < out.length → G (out.eraseIdx j) = false) → minB G (shrinkL G f out i) = true ∧ (shrinkL G f out i).Sublist out
  | 0, out, i, hf, hI, hg, hj => ⟨minB_iff.2 ⟨hg, fun j h => hj j (Nat.lt_of_lt_of_le h (Nat.sub_eq_zero_iff_le.1 (Nat.le_zero.1 hf))) h⟩, List.Sublist.refl _⟩
  | f + 1, out, i, hf, hI, hg, hj => by
    rw [shrinkL]
    by_cases hi : i < out.length
    · rw [if_pos hi]
      cases he : G (out.eraseIdx i)
      · simp only [Bool.false_eq_true, if_false]
        exact shrinkL_min hG f out (i + 1) (by omega) hI hg fun j h1 h2 => by
          rcases Nat.lt_or_ge j i with h3 | h3
          · exact hj j h3 h2
          · obtain rfl : j = i := by omega
            exact he
      · simp only [if_true]
        have hl := List.length_eraseIdx_of_lt hi
        have hI' := ixs_erase hI i
        obtain ⟨h1, h2⟩ := shrinkL_min hG f (out.eraseIdx i) i (by omega) hI' he fun j h1 h2 => by
          cases hq : G ((out.eraseIdx i).eraseIdx j)
          · rfl
          · have := hG _ _ (ixs_erase hI j) (erase_twice hI h1 hi) hq
            rw [hj j h1 (by omega)] at this
            cases this
        exact ⟨h1, h2.trans (List.eraseIdx_sublist _ _)⟩
    · rw [if_neg hi]
      exact ⟨minB_iff.2 ⟨hg, fun j h => hj j (by omega) h⟩, List.Sublist.refl _⟩
theorem shrinkS_min {n : Nat} {G : List Int → Bool} (hG : Mono n G) {S : List Int} (hI : Ixs n S) (hg : G S = true) : minB G (shrinkS G S 0) = true ∧ (shrinkS G S 0).Sublist S :=
  shrinkL_min hG _ S 0 (by omega) hI hg fun j h => by omega
theorem shrinkL_same {G : List Int → Bool} {S : List Int} (h : minB G S = true) : ∀ (f i : Nat), shrinkL G f S i = S
  | 0, _ => rfl
  | f + 1, i => by
    rw [shrinkL]
    split
    · rename_i hi
      rw [(minB_iff.1 h).2 i hi]
      simp only [Bool.false_eq_true, if_false]
      exact shrinkL_same h f (i + 1)
    · rfl
theorem shrinkS_same {G : List Int → Bool} {S : List Int} (h : minB G S = true) (i : Nat) : shrinkS G S i = S := shrinkL_same h _ i
theorem minB_good {G : List Int → Bool} {S : List Int} (h : minB G S = true) : G S = true := (minB_iff.1 h).1
/-! ### Codes -/
theorem risesB_of {l : List Int} {n : Nat} (h : Ixs n l) : risesB l n = true := risesB_true h.rises
theorem codeZ_ixs {L : List Clm} {l : List Int} (hv : claimsB L = true) (h : Ixs L.length l) : codeZ L l = 0 := by
  unfold codeZ
  rw [hv, risesB_of h]
  rfl
theorem codeZ_claims {L : List Clm} {l : List Int} (h : codeZ L l = 0) : claimsB L = true := by
  unfold codeZ at h
  cases hc : claimsB L
  · rw [hc] at h; cases h
  · rfl
theorem code_ixs {L : List Clm} {l : List Int} (h : codeZ L l = 0) : Ixs L.length l := ixs_of_rises (code_rises h)
end Go.Proofs.YtflcfdiochohgaaGreatDoor
