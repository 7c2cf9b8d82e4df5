import Derived.Test.YtokbolgaokbdcaaDoorPrs
import Derived.Test.YtokbolgaokbdcaaDoorAmt
import Derived.Test.YtokbolgaokbdcaaDoorParsR
import Derived.Test.YtokbolgaokbdcaaDoorRmn
/- What the law on parsings asks, in plain terms. -/
set_option linter.unusedSimpArgs false
set_option linter.unusedVariables false
namespace Go.Proofs.YtokbolgaokbdcaaDoor
open Go.RowKit
theorem smallB_letters {s : ByteArray} {lo hi : Int} (h : smallB s lo hi = true) : (kb s).all letterB = true := by
  unfold smallB at h
  rw [Bool.and_eq_true] at h
  exact h.2
theorem roms_ne {T : List Rul} (h : emptyB T = false) : ∀ i (hi : i < T.length), kb T[i].rom ≠ [] := fun i hi e => by
  have h1 := emptyB_no h i hi
  have h2 : (kb T[i].rom).length = 0 := by rw [e]; rfl
  rw [length_kb] at h2
  omega
theorem at_cases5 (T : List Rul) : (iuC T = 1 ∧ iuB T = false ∧ atC T = 1) ∨ (iuC T = 0 ∧ iuB T = false ∧ atC T = 5) ∨ (iuC T = 0 ∧ iuB T = true ∧ atC T = 4) ∨
    (iuC T = 0 ∧ iuB T = false ∧ atC T = 0 ∧ ((atT T).size ≤ 48 → ∃ v, countR T (atT T) = (v, 0) ∧ 1 < v)) := by
  cases hT : tableB T
  · exact .inl ⟨by simp [iuC, hT], by simp [iuB, hT], by simp [atC, hT]⟩
  · cases he : emptyB T
    · cases hO : ambO T with
      | none => exact .inr (.inr (.inl ⟨by simp [iuC, hT], by simp [iuB, plainB, hT, he, hO], by simp [atC, hT, he, hO]⟩))
      | some t =>
        have hc : atC T = 0 := by simp [atC, hT, he, hO]
        have ht : atT T = ⟨t.toArray⟩ := by simp [atT, hc, hO]
        have hk : kb (atT T) = t := by rw [ht]; simp [kb]
        refine .inr (.inr (.inr ⟨by simp [iuC, hT], by simp [iuB, plainB, hT, he, hO], hc, fun h48 => ?_⟩))
        obtain ⟨w1, w2⟩ := amb_ways (s := atT T) (roms_ne he) (by rw [hk]; exact hO) (tableB_len hT)
        obtain ⟨p, q, -, hp, -⟩ := ways_two0.1 w1
        have hlet : (kb (atT T)).all letterB = true := hp.letters fun i hi => by
          have := tableB_rule hT hi
          unfold ruleB at this
          rw [Bool.and_eq_true] at this
          exact smallB_letters this.2
        have hsm : smallB (atT T) 0 48 = true := by
          unfold smallB
          rw [Bool.and_eq_true, inB_iff]
          exact ⟨by omega, hlet⟩
        refine ⟨ways T (atT T) 0, ?_, w1⟩
        unfold countR
        rw [hT, hsm]
        simp only [Bool.and_self, if_true]
        rw [if_neg (by omega)]
    · exact .inr (.inl ⟨by simp [iuC, hT], by simp [iuB, plainB, hT, he], by simp [atC, hT, he]⟩)
theorem cnt_cases (T : List Rul) (s : ByteArray) : (countR T s = (0, 1) ∧ frC T s = 1) ∨ (countR T s = (0, 3) ∧ frC T s = 0) ∨ (∃ v, countR T s = (v, 0) ∧ 0 < v ∧ frC T s = 0 ∧ iuC T = 0 ∧ (iuB T = true → v ≤ 1)) ∨ (countR T s = (0, 0) ∧ frC T s = 4 ∧ iuC T = 0) := by
  have w0 := ways_nonneg T s 0
  cases hb : textB T s
  · have hb2 : (tableB T && smallB s 0 48) = false := hb
    exact .inl ⟨by unfold countR; rw [hb2]; rfl, by simp [frC, hb]⟩
  · have hb2 : (tableB T && smallB s 0 48) = true := hb
    have hT := (textB_sizes hb).1
    by_cases hz : 0 < ways T s 0
    · have hf : frC T s = 0 := by simp [frC, hb, fpK, hz]
      by_cases hM : 1000000000000 < ways T s 0
      · exact .inr (.inl ⟨by unfold countR; rw [hb2, if_pos rfl, if_pos hM], hf⟩)
      · refine .inr (.inr (.inl ⟨ways T s 0, by unfold countR; rw [hb2, if_pos rfl, if_neg hM], hz, hf, by simp [iuC, hT], fun hp => ?_⟩))
        have hO : ambO T = none := by
          cases hO : ambO T with
          | none => rfl
          | some t => simp [iuB, plainB, hO] at hp
        have := plain_one hO s
        omega
    · have h0 : ways T s 0 = 0 := by omega
      exact .inr (.inr (.inr ⟨by unfold countR; rw [hb2, if_pos rfl, if_neg (by omega), h0], by simp [frC, hb, fpK, h0], by simp [iuC, hT]⟩))
theorem fr_facts {T : List Rul} {s : ByteArray} (h : frC T s = 0) : inT T (frL T s) ∧ romL T (frL T s) = s := by
  have hb : textB T s = true := by
    cases hb : textB T s
    · simp [frC, hb] at h
    · rfl
  have hk : fpK T s = true := by
    cases hk : fpK T s
    · simp [frC, hb, hk] at h
    · rfl
  rw [show frL T s = fpL T s by simp [frL, hb]]
  exact ⟨fpL_in hk, fpL_rom hk⟩
end Go.Proofs.YtokbolgaokbdcaaDoor
