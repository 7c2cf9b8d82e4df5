import Derived.Test.YtflcfdiochohgaaGreatDoorPackE
import Derived.Test.YtflcfdiochohgaaGreatDoorPackF
import Derived.Test.YtflcfdiochohgaaGreatDoorPairs
/- Repairs and cores in the laws that draw: the plain law. -/
set_option linter.unusedSimpArgs false
set_option linter.unusedVariables false
namespace Go.Proofs.YtflcfdiochohgaaGreatDoor
/-! ### Codes -/
theorem risesB_of {l : List Int} {n : Nat} (h : Ixs n l) : risesB l n = true := risesB_true h.rises
theorem codeZ_ixs {L : List Clm} {l : List Int} (hv : claimsB L = true) (h : Ixs L.length l) : codeZ L l = 0 := by
  unfold codeZ
  rw [hv, risesB_of h]
  rfl
/-! ### Pairs are cores -/
theorem claim_val {c : Clm} (h : claimB c = true) (hk : c.kind = 1) : c.val ≠ c.place := by
  have hval : valueB c = true := by
    unfold claimB at h
    simp only [Bool.and_eq_true] at h
    exact h.1.1.2
  unfold valueB at hval
  rw [if_neg (by omega), if_pos hk] at hval
  simp only [Bool.and_eq_true, Bool.not_eq_true', decide_eq_false_iff_not] at hval
  exact hval.2
theorem cons_one {c : Clm} (h : claimB c = true) : consB [c] = true := by
  refine bof_true ⟨by simp [NoPair], fun d hd hk e he => ?_⟩
  simp only [List.mem_cons, List.not_mem_nil, or_false] at hd he
  rw [hd] at hk
  rw [hd, he]
  clear hd he d e
  have hne := claim_val h hk
  have h2 : ∀ y, parOf [c] y c.val = none := fun y => parOf_none fun x hx => by
    simp only [List.mem_cons, List.not_mem_nil, or_false] at hx
    rw [hx]
    cases hp : parP c.val y c
    · rfl
    · exact absurd (parP_iff.1 hp).2.1.symm hne
  unfold circZ
  rw [show ([c] : List Clm).length + 1 = 0 + 1 + 1 from rfl, circ]
  cases hp : parOf [c] c.fr c.place with
  | none => rfl
  | some v =>
    obtain ⟨e, he, hpe, rfl⟩ := parOf_some hp
    simp only [List.mem_cons, List.not_mem_nil, or_false] at he
    rw [he]
    simp only [if_neg hne]
    split
    · rfl
    · rw [circ, h2]
theorem pair_core {L : List Clm} (hv : claimsB L = true) {T : List Int} (hT : T ∈ pairs L) : codeZ L T = 0 ∧ minB (coreG L) T = true := by
  unfold pairs pairsTo at hT
  rw [List.mem_flatMap] at hT
  obtain ⟨i, hi, hT⟩ := hT
  unfold pairsIn at hT
  rw [List.mem_map] at hT
  obtain ⟨j, hj, rfl⟩ := hT
  rw [List.mem_filter, Bool.and_eq_true, List.mem_range, decide_eq_true_eq] at hj
  obtain ⟨hjn, hij, hp⟩ := hj
  have hin : i < L.length := by omega
  rw [pairB_at hin hjn] at hp
  have hI : Ixs L.length [(i : Int), (j : Int)] := ⟨by simp; omega, fun x hx => by simp at hx; omega⟩
  refine ⟨codeZ_ixs hv hI, minB_iff.2 ⟨?_, fun k hk => ?_⟩⟩
  · unfold coreG
    have e : pick L [(i : Int), (j : Int)] = [L[i], L[j]] := by simp [pick, hin, hjn]
    rw [e]
    cases hc : consB [L[i], L[j]]
    · rfl
    · have h1 := (of_bof hc).1
      unfold NoPair at h1
      rw [List.pairwise_cons] at h1
      have := h1.1 L[j] (by simp)
      rw [contra_symm, hp] at this
      cases this
  · have hone : ∀ m, m < L.length → coreG L [(m : Int)] = false := fun m hm => by
      unfold coreG
      have e : pick L [(m : Int)] = [L[m]] := by simp [pick, hm]
      have hc : claimB L[m] = true := by
        unfold claimsB at hv
        rw [Bool.and_eq_true] at hv
        exact List.all_eq_true.1 hv.2 _ (List.getElem_mem hm)
      rw [e, cons_one hc]
      rfl
    simp only [List.length_cons, List.length_nil] at hk
    rcases (show k = 0 ∨ k = 1 by omega) with rfl | rfl
    · exact hone j hjn
    · exact hone i hin
end Go.Proofs.YtflcfdiochohgaaGreatDoor
