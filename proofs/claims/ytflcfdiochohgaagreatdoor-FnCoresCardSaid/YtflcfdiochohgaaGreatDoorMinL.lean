import Derived.Test.YtflcfdiochohgaaGreatDoorPackE
import Derived.Test.YtflcfdiochohgaaGreatDoorPackF
import Derived.Test.YtflcfdiochohgaaGreatDoorPairs
/- Repairs and cores in the laws that draw: the plain law. -/
set_option linter.unusedSimpArgs false
set_option linter.unusedVariables false
namespace Go.Proofs.YtflcfdiochohgaaGreatDoor
theorem minI_least {lt : List Int → List Int → Bool} {f : List Int → Int} (h1 : ∀ x y, lt x y = true → f x ≤ f y) (h2 : ∀ x y, lt x y = false → f y ≤ f x) (S : List (List Int)) : ∀ k j, j ≤ k → f (S.getD (minI lt S k) []) ≤ f (S.getD j [])
  | 0, j, h => by
    obtain rfl : j = 0 := by omega
    exact Int.le_refl _
  | k + 1, j, h => by
    have ih := minI_least h1 h2 S k
    cases hc : lt (S.getD (k + 1) []) (S.getD (minI lt S k) [])
    · rw [minI_no hc]
      rcases Nat.lt_or_ge k j with hj | hj
      · obtain rfl : j = k + 1 := by omega
        exact h2 _ _ hc
      · exact ih j hj
    · rw [minI_yes hc]
      rcases Nat.lt_or_ge k j with hj | hj
      · obtain rfl : j = k + 1 := by omega
        exact Int.le_refl _
      · exact Int.le_trans (h1 _ _ hc) (ih j hj)
theorem bestL_least {lt : List Int → List Int → Bool} {f : List Int → Int} (h1 : ∀ x y, lt x y = true → f x ≤ f y) (h2 : ∀ x y, lt x y = false → f y ≤ f x) {S : List (List Int)} {T : List Int} (hT : T ∈ S) : f (bestL lt S) ≤ f T := by
  obtain ⟨j, hj, rfl⟩ := List.mem_iff_getElem.1 hT
  have := minI_least h1 h2 S (S.length - 1) j (by omega)
  rwa [getD_at hj] at this
theorem best_short {S : List (List Int)} {T : List Int} (hT : T ∈ S) : ((bestL lenLt S).length : Int) ≤ T.length :=
  bestL_least (f := fun x => (x.length : Int)) (fun x y h => by unfold lenLt at h; have := of_decide_eq_true h; omega) (fun x y h => by unfold lenLt at h; have := of_decide_eq_false h; omega) hT
theorem sum_set : ∀ (l : List Int) (i : Nat) (v : Int), i < l.length → (l.set i v).sum = l.sum - l.getD i 0 + v
  | [], i, v, h => by simp at h
  | x :: l, 0, v, h => by simp; omega
  | x :: l, i + 1, v, h => by
    have ih := sum_set l i v (by simpa using h)
    simp only [List.set_cons_succ, List.sum_cons, List.getD_cons_succ]
    omega
theorem addAt_sum {l : List Int} {i : Int} (h : i.toNat < l.length) : (addAt l i).sum = l.sum + 1 := by
  unfold addAt
  rw [sum_set l _ _ h]
  omega
theorem incIn_len (l T : List Int) : ∀ m, (incIn l T m).length = l.length
  | 0 => rfl
  | m + 1 => by rw [incIn, addAt_len, incIn_len l T m]
theorem incTo_len (n : Nat) (R : List (List Int)) : ∀ k, (incTo n R k).length = n
  | 0 => by simp [incTo]
  | k + 1 => by rw [incTo, incIn_len, incTo_len n R k]
theorem incIn_sum {n : Nat} {l T : List Int} (hl : l.length = n) (hT : Within n T) : ∀ m, m ≤ T.length → (incIn l T m).sum = l.sum + m
  | 0, _ => by simp [incIn]
  | m + 1, h => by
    have ih := incIn_sum hl hT m (by omega)
    have hw := hT.at_ (show m < T.length by omega)
    rw [incIn, getD_at (by omega), addAt_sum (by rw [incIn_len, hl]; omega), ih]
    omega
/-- The lengths of the first lists, added up. -/
def lenTo (R : List (List Int)) : Nat → Nat
  | 0 => 0
  | k + 1 => lenTo R k + (atL R k).length
theorem lenTo_le {R : List (List Int)} (hR : ∀ T ∈ R, T.length ≤ 12) : ∀ k, k ≤ R.length → lenTo R k ≤ k * 12
  | 0, _ => by simp [lenTo]
  | k + 1, h => by
    have ih := lenTo_le hR k (by omega)
    have := hR _ (atL_mem (show k < R.length by omega))
    rw [lenTo, Nat.succ_mul]
    omega
theorem incTo_sum {n : Nat} {R : List (List Int)} (hR : ∀ T ∈ R, Within n T) : ∀ k, k ≤ R.length → (incTo n R k).sum = lenTo R k
  | 0, _ => by
    have h0 : ∀ m : Nat, (List.replicate m (0 : Int)).sum = 0 := fun m => by
      induction m with
      | zero => rfl
      | succ m ih => rw [List.replicate_succ, List.sum_cons, ih]; rfl
    rw [incTo, lenTo, h0]
    rfl
  | k + 1, h => by
    have ih := incTo_sum hR k (by omega)
    rw [incTo, incIn_sum (incTo_len n R k) (hR _ (atL_mem (by omega))) _ (Nat.le_refl _), ih, lenTo]
    omega
/-! ### What shrinking leaves is least -/
theorem erase_twice {n : Nat} {S : List Int} (h : Ixs n S) {i j : Nat} (hj : j < i) (hi : i < S.length) : ((S.eraseIdx i).eraseIdx j).Sublist (S.eraseIdx j) := by
  have h1 : Ixs n (S.eraseIdx i) := ixs_erase h i
  have hl := List.length_eraseIdx_of_lt hi
  refine sorted_sub (ixs_erase h1 j).inc (ixs_erase h j).inc fun x hx => ?_
  have hj1 : j < (S.eraseIdx i).length := by omega
  have hj2 : j < S.length := by omega
  rw [mem_erase_ix h1 hj1, mem_erase_ix h hi] at hx
  rw [mem_erase_ix h hj2]
  refine ⟨hx.1.1, fun e => hx.2 ?_⟩
  rw [e, List.getElem_eraseIdx, dif_pos hj]
theorem shrinkL_min {n : Nat} {G : List Int → Bool} (hG : Mono n G) : ∀ (f : Nat) (out : List Int) (i : Nat), out.length - i ≤ f → Ixs n out → G out = true → (∀ j, j < i → j < out.length → G (out.eraseIdx j) = false) → minB G (shrinkL G f out i) = true ∧ (shrinkL G f out i).Sublist out
  | 0, out, i, hf, hI, hg, hj => ⟨minB_iff.2 ⟨hg, fun j h => hj j (Nat.lt_of_lt_of_le h (Nat.sub_eq_zero_iff_le.1 (Nat.le_zero.1 hf))) h⟩, List.Sublist.refl _⟩
  | f + 1, out, i, hf, hI, hg, hj => by
    rw [shrinkL]
    by_cases hi : i < out.length
    · rw [if_pos hi]
      cases he : G (out.eraseIdx i)
      · simp only [Bool.false_eq_true, if_false]
        exact shrinkL_min hG f out (i + 1) (by omega) hI hg fun j h1 h2 => by
          rcases Nat.lt_or_ge j i with h3 | h3
          · exact hj j h3 h2
          · obtain rfl : j = i := by omega
            exact he
      · simp only [if_true]
        have hl := List.length_eraseIdx_of_lt hi
        have hI' := ixs_erase hI i
        obtain ⟨h1, h2⟩ := shrinkL_min hG f (out.eraseIdx i) i (by omega) hI' he fun j h1 h2 => by
          cases hq : G ((out.eraseIdx i).eraseIdx j)
          · rfl
          · have := hG _ _ (ixs_erase hI j) (erase_twice hI h1 hi) hq
            rw [hj j h1 (by omega)] at this
            cases this
        exact ⟨h1, h2.trans (List.eraseIdx_sublist _ _)⟩
    · rw [if_neg hi]
      exact ⟨minB_iff.2 ⟨hg, fun j h => hj j (by omega) h⟩, List.Sublist.refl _⟩
theorem shrinkS_min {n : Nat} {G : List Int → Bool} (hG : Mono n G) {S : List Int} (hI : Ixs n S) (hg : G S = true) : minB G (shrinkS G S 0) = true ∧ (shrinkS G S 0).Sublist S :=
  shrinkL_min hG _ S 0 (by omega) hI hg fun j h => by omega
/-! ### Codes -/
theorem risesB_of {l : List Int} {n : Nat} (h : Ixs n l) : risesB l n = true := risesB_true h.rises
theorem codeZ_ixs {L : List Clm} {l : List Int} (hv : claimsB L = true) (h : Ixs L.length l) : codeZ L l = 0 := by
  unfold codeZ
  rw [hv, risesB_of h]
  rfl
theorem codeZ_claims {L : List Clm} {l : List Int} (h : codeZ L l = 0) : claimsB L = true := by
  unfold codeZ at h
  cases hc : claimsB L
  · rw [hc] at h; cases h
  · rfl
theorem code_ixs {L : List Clm} {l : List Int} (h : codeZ L l = 0) : Ixs L.length l := ixs_of_rises (code_rises h)
end Go.Proofs.YtflcfdiochohgaaGreatDoor
