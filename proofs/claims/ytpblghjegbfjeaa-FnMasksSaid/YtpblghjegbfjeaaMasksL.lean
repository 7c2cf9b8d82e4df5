import Derived.Test.YtpblghjegbfjeaaPiecesOf
/- The numbers of points: of a union and of what both have in common, and of all pieces: the plain law. -/
set_option linter.unusedSimpArgs false
set_option linter.unusedVariables false
namespace Go.Proofs.Ytpblghjegbfjeaa
theorem count_or_and : ∀ (l l' : List Bool), l.length = l'.length → (joinL op_or l l').count true + (joinL op_and l l').count true = l.count true + l'.count true
  | [], [], _ => rfl
  | a :: l, b :: l', h => by
    have ih := count_or_and l l' (by simpa using h)
    simp only [joinL, List.zipWith_cons_cons, List.count_cons] at ih ⊢
    cases a <;> cases b <;> simp [op_or, op_and] <;> omega
theorem count_dif_and : ∀ (l l' : List Bool), l.length = l'.length → (joinL op_dif l l').count true + (joinL op_and l l').count true = l.count true
  | [], [], _ => rfl
  | a :: l, b :: l', h => by
    have ih := count_dif_and l l' (by simpa using h)
    simp only [joinL, List.zipWith_cons_cons, List.count_cons] at ih ⊢
    cases a <;> cases b <;> simp [op_dif, op_and] <;> omega
theorem plus_zip {D P : List Bool} (h : P.length = D.length) : plus D P = List.zipWith (fun a b => a || b) D P := by
  apply List.ext_getElem?
  intro k
  by_cases hk : k < D.length
  · have hk' : k < P.length := by omega
    rw [plus_at hk hk', List.getElem?_zipWith, List.getElem?_eq_getElem hk, List.getElem?_eq_getElem hk']
  · rw [List.getElem?_eq_none (by simp [plus]; omega), List.getElem?_eq_none (by simp; omega)]
theorem count_zip : ∀ (D P : List Bool), P.length = D.length → (∀ k : Nat, D[k]? = some true → P[k]? = some true → False) → (List.zipWith (fun a b => a || b) D P).count true = D.count true + P.count true
  | [], [], _, _ => rfl
  | a :: D, b :: P, h, hd => by
    have ih := count_zip D P (by simpa using h) fun k h1 h2 => hd (k + 1) (by simpa using h1) (by simpa using h2)
    have h0 := hd 0
    simp only [List.getElem?_cons_zero, Option.some.injEq] at h0
    simp only [List.zipWith_cons_cons, List.count_cons]
    cases a <;> cases b <;> simp_all <;> omega
theorem cntB_full {P : List Bool} {n : Nat} (h : P.length = n) : cntB P n = P.count true := by subst h; simp [cntB]
section
variable {l : List Bool} {Nb : Nat → Int → Prop}
/-- The pieces found so far: their numbers add up to the cells found, which are the mask's, and all of it up to here. -/
theorem pcs_all (hs : ∀ k k' : Nat, k < l.length → k' < l.length → Nb k k' → Nb k' k) : ∀ k, k ≤ l.length →
    (pcs l Nb k).2.sum = ((pcs l Nb k).1.count true : Int) ∧ (∀ j : Nat, (pcs l Nb k).1[j]? = some true → l[j]? = some true) ∧ (∀ j : Nat, j < k → l[j]? = some true → (pcs l Nb k).1[j]? = some true)
  | 0, _ => by
    refine ⟨?_, fun j hj => ?_, fun j hj => absurd hj (by omega)⟩
    · simp [pcs, List.count_replicate]
    · simp [pcs, List.getElem?_replicate] at hj
  | k + 1, hk => by
    obtain ⟨i1, i2, i3⟩ := pcs_all hs k (by omega)
    by_cases hc : l[k]? = some true ∧ (pcs l Nb k).1[k]? = some false
    · rw [pcs_yes l Nb hc.1 hc.2]
      have hw := pcs_whole l Nb k
      have hP : (pieceL l Nb k).length = (pcs l Nb k).1.length := by rw [length_pieceL, pcs_len]
      have hout := hw.out hs hc.1 hc.2
      have hmem : ∀ j, (pieceL l Nb k)[j]? = some true → l[j]? = some true ∧ (pcs l Nb k).1[j]? = some false := fun j hj => hout j (pieceL_get.1 hj).2
      refine ⟨?_, fun j hj => ?_, fun j hj hl => ?_⟩
      · simp only [List.sum_append, List.sum_cons, List.sum_nil]
        rw [i1, plus_zip hP, count_zip _ _ hP fun j h1 h2 => by rw [(hmem j h2).2] at h1; cases h1]
        rw [cntB_full (length_pieceL)]
        simp
      · rcases (plus_get hP).1 hj with h | h
        · exact i2 j h
        · exact (hmem j h).1
      · rw [plus_get hP]
        by_cases hjk : j = k
        · subst hjk
          exact .inr (pieceL_get.2 ⟨by omega, .start⟩)
        · exact .inl (i3 j (by omega) hl)
    · rw [pcs_no l Nb (by
        by_cases h1 : l[k]? = some true
        · exact .inr fun h2 => hc ⟨h1, h2⟩
        · exact .inl h1)]
      refine ⟨i1, i2, fun j hj hl => ?_⟩
      by_cases hjk : j = k
      · subst hjk
        have hlen : j < (pcs l Nb j).1.length := by rw [pcs_len]; omega
        cases hv : (pcs l Nb j).1[j] with
        | true => rw [List.getElem?_eq_getElem hlen, hv]
        | false => exact absurd ⟨hl, by rw [List.getElem?_eq_getElem hlen, hv]⟩ hc
      · exact i3 j (by omega) hl
theorem pcs_end (hs : ∀ k k' : Nat, k < l.length → k' < l.length → Nb k k' → Nb k' k) : (pcs l Nb l.length).1 = l := by
  obtain ⟨-, i2, i3⟩ := pcs_all hs l.length (Nat.le_refl _)
  have hl := pcs_len l Nb l.length
  apply List.ext_getElem?
  intro k
  by_cases hk : k < l.length
  · have hk' : k < (pcs l Nb l.length).1.length := by omega
    rw [List.getElem?_eq_getElem hk, List.getElem?_eq_getElem hk']
    congr 1
    have a1 := i2 k
    have a2 := i3 k hk
    rw [List.getElem?_eq_getElem hk, List.getElem?_eq_getElem hk'] at a1 a2
    simp only [Option.some.injEq] at a1 a2
    cases h1 : (pcs l Nb l.length).1[k] <;> cases h2 : l[k] <;> simp_all
  · rw [List.getElem?_eq_none (by omega), List.getElem?_eq_none (by omega)]
theorem pcs_mem : ∀ k, ∀ x ∈ (pcs l Nb k).2, 0 ≤ x ∧ x ≤ l.length
  | 0 => by simp [pcs]
  | k + 1 => by
    intro x hx
    simp only [pcs] at hx
    split at hx
    · simp only [List.mem_append, List.mem_singleton] at hx
      rcases hx with hx | rfl
      · exact pcs_mem k x hx
      · have := cntB_le (pieceL l Nb k) l.length
        omega
    · exact pcs_mem k x hx
end
theorem piecesN_sum {x y W H : Int} {l : List Bool} (h : isMaskB x y W H l.length = true) : (piecesN x y W H l).sum = (cntB l l.length : Int) := by
  have b := box_of h
  have hs : ∀ k k' : Nat, k < l.length → k' < l.length → Beside x y W H k k' → Beside x y W H k' k := fun k k' hk _ hb => beside_symm b hk hb
  have h1 := (pcs_all hs l.length (Nat.le_refl _)).1
  rw [pcs_end hs] at h1
  unfold piecesN
  rw [h1, cntB_full rfl]
theorem piecesN_mem {x y W H : Int} {l : List Bool} : ∀ v ∈ piecesN x y W H l, 0 ≤ v ∧ v ≤ l.length := pcs_mem l.length
/-- What the three ways to combine two masks give, together. -/
theorem comb_all (x y W H x' y' W' H' : Int) (l l' : List Bool) (hm : l.length ≤ 1048576) (hm' : l'.length ≤ 1048576) : ∃ X Y X2 Y2 code Lo La Ld, comb x y W H x' y' W' H' l l' op_or = ((X, Y, X2, Y2, code), Lo) ∧ comb x y W H x' y' W' H' l l' op_and = ((X, Y, X2, Y2, code), La) ∧
    comb x y W H x' y' W' H' l l' op_dif = ((X, Y, X2, Y2, code), Ld) ∧ Lo.length ≤ 1048576 ∧ La.length ≤ 1048576 ∧ Ld.length ≤ 1048576 ∧
    (code = 0 → isMaskB x y W H l.length = true ∧ isMaskB x' y' W' H' l'.length = true ∧ isMaskB X Y X2 Y2 Lo.length = true ∧ isMaskB X Y X2 Y2 La.length = true ∧ isMaskB X Y X2 Y2 Ld.length = true ∧
      (cntB Lo Lo.length : Int) + cntB La La.length = cntB l l.length + cntB l' l'.length ∧ (cntB Ld Ld.length : Int) + cntB La La.length = cntB l l.length) := by
  by_cases h0 : twoCode x y W H x' y' W' H' l.length l'.length = 0
  · have hc : ∀ f, comb x y W H x' y' W' H' l l' f = ((x, y, W, H, 0), joinL f l l') := fun f => by unfold comb; rw [if_pos h0]
    have h1 : isMaskB x y W H l.length = true ∧ isMaskB x' y' W' H' l'.length = true ∧ fitsB x y W H x' y' W' H' = true := by
      unfold twoCode at h0
      split at h0
      · rename_i h
        simp only [Bool.and_eq_true] at h
        split at h0
        · rename_i h2; exact ⟨h.1, h.2, h2⟩
        · omega
      · omega
    obtain ⟨m1, m2, hf⟩ := h1
    obtain ⟨rfl, rfl, rfl, rfl⟩ := fits_eq hf
    have hll : l.length = l'.length := by
      have e1 := (mask_len m1).1
      have e2 := (mask_len m2).1
      omega
    have lj : ∀ f, (joinL f l l').length = l.length := fun f => length_joinL f l l' hll
    refine ⟨x, y, W, H, 0, _, _, _, hc _, hc _, hc _, by rw [lj]; exact hm, by rw [lj]; exact hm, by rw [lj]; exact hm, fun _ => ⟨m1, m2, by rw [lj]; exact m1, by rw [lj]; exact m1, by rw [lj]; exact m1, ?_, ?_⟩⟩
    · have := count_or_and l l' hll
      rw [cntB_full rfl, cntB_full rfl, cntB_full rfl, cntB_full rfl]
      omega
    · have := count_dif_and l l' hll
      rw [cntB_full rfl, cntB_full rfl, cntB_full rfl]
      omega
  · have hc : ∀ f, comb x y W H x' y' W' H' l l' f = ((0, 0, 0, 0, twoCode x y W H x' y' W' H' l.length l'.length), []) := fun f => by unfold comb; rw [if_neg h0]
    exact ⟨0, 0, 0, 0, _, [], [], [], hc _, hc _, hc _, by simp, by simp, by simp, fun h => absurd h h0⟩
end Go.Proofs.Ytpblghjegbfjeaa
