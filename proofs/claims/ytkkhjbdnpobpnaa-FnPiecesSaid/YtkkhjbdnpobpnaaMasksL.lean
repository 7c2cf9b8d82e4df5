import Derived.Test.YtkkhjbdnpobpnaaPiecesOf
/- The numbers of points: of a union and of what both have in common, and of all pieces: the plain law. -/
set_option linter.unusedSimpArgs false
set_option linter.unusedVariables false
namespace Go.Proofs.Ytkkhjbdnpobpnaa
theorem plus_zip {D P : List Bool} (h : P.length = D.length) : plus D P = List.zipWith (fun a b => a || b) D P := by
  apply List.ext_getElem?
  intro k
  by_cases hk : k < D.length
  · have hk' : k < P.length := by omega
    rw [plus_at hk hk', List.getElem?_zipWith, List.getElem?_eq_getElem hk, List.getElem?_eq_getElem hk']
  · rw [List.getElem?_eq_none (by simp [plus]; omega), List.getElem?_eq_none (by simp; omega)]
theorem count_zip : ∀ (D P : List Bool), P.length = D.length → (∀ k : Nat, D[k]? = some true → P[k]? = some true → False) → (List.zipWith (fun a b => a || b) D P).count true = D.count true + P.count true
  | [], [], _, _ => rfl
  | a :: D, b :: P, h, hd => by
    have ih := count_zip D P (by simpa using h) fun k h1 h2 => hd (k + 1) (by simpa using h1) (by simpa using h2)
    have h0 := hd 0
    simp only [List.getElem?_cons_zero, Option.some.injEq] at h0
    simp only [List.zipWith_cons_cons, List.count_cons]
    cases a <;> cases b <;> simp_all <;> omega
theorem cntB_full {P : List Bool} {n : Nat} (h : P.length = n) : cntB P n = P.count true := by subst h; simp [cntB]
section
variable {l : List Bool} {Nb : Nat → Int → Prop}
/-- The pieces found so far: their numbers add up to the cells found, which are the mask's, and all of it up to here. -/
theorem pcs_all (hs : ∀ k k' : Nat, k < l.length → k' < l.length → Nb k k' → Nb k' k) : ∀ k, k ≤ l.length →
    (pcs l Nb k).2.sum = ((pcs l Nb k).1.count true : Int) ∧ (∀ j : Nat, (pcs l Nb k).1[j]? = some true → l[j]? = some true) ∧ (∀ j : Nat, j < k → l[j]? = some true → (pcs l Nb k).1[j]? = some true)
  | 0, _ => by
    refine ⟨?_, fun j hj => ?_, fun j hj => absurd hj (by omega)⟩
    · simp [pcs, List.count_replicate]
    · simp [pcs, List.getElem?_replicate] at hj
  | k + 1, hk => by
    obtain ⟨i1, i2, i3⟩ := pcs_all hs k (by omega)
    by_cases hc : l[k]? = some true ∧ (pcs l Nb k).1[k]? = some false
    · rw [pcs_yes l Nb hc.1 hc.2]
      have hw := pcs_whole l Nb k
      have hP : (pieceL l Nb k).length = (pcs l Nb k).1.length := by rw [length_pieceL, pcs_len]
      have hout := hw.out hs hc.1 hc.2
      have hmem : ∀ j, (pieceL l Nb k)[j]? = some true → l[j]? = some true ∧ (pcs l Nb k).1[j]? = some false := fun j hj => hout j (pieceL_get.1 hj).2
      refine ⟨?_, fun j hj => ?_, fun j hj hl => ?_⟩
      · simp only [List.sum_append, List.sum_cons, List.sum_nil]
        rw [i1, plus_zip hP, count_zip _ _ hP fun j h1 h2 => by rw [(hmem j h2).2] at h1; cases h1]
        rw [cntB_full (length_pieceL)]
        simp
      · rcases (plus_get hP).1 hj with h | h
        · exact i2 j h
        · exact (hmem j h).1
      · rw [plus_get hP]
        by_cases hjk : j = k
        · subst hjk
          exact .inr (pieceL_get.2 ⟨by omega, .start⟩)
        · exact .inl (i3 j (by omega) hl)
    · rw [pcs_no l Nb (by
        by_cases h1 : l[k]? = some true
        · exact .inr fun h2 => hc ⟨h1, h2⟩
        · exact .inl h1)]
      refine ⟨i1, i2, fun j hj hl => ?_⟩
      by_cases hjk : j = k
      · subst hjk
        have hlen : j < (pcs l Nb j).1.length := by rw [pcs_len]; omega
        cases hv : (pcs l Nb j).1[j] with
        | true => rw [List.getElem?_eq_getElem hlen, hv]
        | false => exact absurd ⟨hl, by rw [List.getElem?_eq_getElem hlen, hv]⟩ hc
      · exact i3 j (by omega) hl
end
end Go.Proofs.Ytkkhjbdnpobpnaa
