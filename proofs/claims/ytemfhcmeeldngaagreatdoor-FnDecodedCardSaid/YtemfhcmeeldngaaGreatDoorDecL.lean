import Derived.Test.YtemfhcmeeldngaaGreatDoorPrsL
/- What the law on decoding asks, in plain terms. -/
set_option linter.unusedSimpArgs false
set_option linter.unusedVariables false
namespace Go.Proofs.YtemfhcmeeldngaaGreatDoor
open Go.RowKit
theorem signsL_all {T : List Rul} (hT : tableB T = true) (l : List Int) : ∀ x ∈ signsL T l, inB x 0 19 = true := fun x hx => by
  unfold signsL at hx
  rw [List.mem_flatMap] at hx
  obtain ⟨i, _, h⟩ := hx
  cases h2 : T[i.toNat]? with
  | none => rw [h2] at h; cases h
  | some r =>
    rw [h2] at h
    obtain ⟨hk, e⟩ := List.getElem?_eq_some_iff.1 h2
    have := tableB_rule hT hk
    rw [e] at this
    unfold ruleB signsB at this
    simp only [Bool.and_eq_true, List.all_eq_true] at this
    exact this.1.2 x h
theorem signsB_of {T : List Rul} (hT : tableB T = true) {l : List Int} (h0 : 0 < (signsL T l).length) (h12 : (signsL T l).length ≤ 12) : signsB (signsL T l) 12 = true := by
  unfold signsB
  rw [Bool.and_eq_true, inB_iff, List.all_eq_true]
  exact ⟨by omega, signsL_all hT l⟩
theorem stb_iff {T : List Rul} {l : List Int} (h : stb T l = true) : 0 < l.length ∧ l.any (noRomAt T) = false ∧ (signsL T l).length ≤ 12 ∧ used T (signsL T l) = some l := by
  unfold stb at h
  simp only [Bool.and_eq_true, decide_eq_true_eq, Bool.not_eq_true', beq_iff_eq] at h
  obtain ⟨⟨⟨⟨h1, h2⟩, h3⟩, h4⟩, h5⟩ := h
  refine ⟨h1, h2, h3, ?_⟩
  obtain ⟨u, hu⟩ := Option.isSome_iff_exists.1 h4
  rw [hu] at h5 ⊢
  unfold usL at h5
  simp only [Option.getD_some] at h5
  rw [h5]
/-- A stable parsing is what is used for its signs. -/
theorem stb_used {T : List Rul} (hT : tableB T = true) {l : List Int} (hl : inT T l) (h : stb T l = true) : ruC T (signsL T l) = 0 ∧ ruL T (signsL T l) = l := by
  obtain ⟨h1, -, h3, h4⟩ := stb_iff h
  have h5 := signsL_pos hT hl
  have hc : ruC T (signsL T l) = 0 := by
    unfold ruC
    rw [hT, signsB_of hT (by omega) h3, h4]
    rfl
  refine ⟨hc, ?_⟩
  unfold ruL
  rw [if_pos hc, h4]
  rfl
/-- What is decoded is romanised to the text. -/
theorem decoded_back {T : List Rul} {s : ByteArray} (h : dtC T s = 0) : ruC T (dtL T s) = 0 ∧ ruT T (dtL T s) = s := by
  have hb : textB T s = true := by
    cases hb : textB T s
    · simp [dtC, hb] at h
    · rfl
  have hp : plainB T = true := by
    cases hp : plainB T
    · simp [dtC, hb, hp] at h
    · rfl
  have hk : dcK T s = true := by
    cases hk : dcK T s
    · simp [dtC, hb, hp, hk] at h
    · rfl
  have hT := (textB_sizes hb).1
  have hk2 := hk
  unfold dcK at hk2
  rw [Bool.and_eq_true] at hk2
  have e : dtL T s = signsL T (fpL T s) := by
    unfold dtL
    rw [if_pos h]
    unfold dcL
    rw [if_pos hk]
  rw [e]
  obtain ⟨h1, h2⟩ := stb_used hT (fpL_in hk2.1) hk2.2
  refine ⟨h1, ?_⟩
  unfold ruT
  rw [h2]
  exact fpL_rom hk2.1
/-- With an unambiguous table every romanised list of signs is recovered. -/
theorem recovered {T : List Rul} {s : List Int} (h : irC T s = 0) : irB T s = true := by
  have hc : ruC T s = 0 := by
    rcases Decidable.em (ruC T s = 0) with h1 | h1
    · exact h1
    · simp [irC, h1] at h
  have hp : plainB T = true := by
    cases hp : plainB T
    · simp [irC, hc, hp] at h
    · rfl
  have hT := ruC_tab hc
  have hb : signsB s 12 = true := by
    cases hb : signsB s 12
    · simp [ruC, hb] at hc
    · rfl
  have hlen := signsB_len hb
  obtain ⟨l, hu⟩ : ∃ l, used T s = some l := by
    cases hu : used T s with
    | none => simp [ruC, hT, hb, hu] at hc
    | some l => exact ⟨l, rfl⟩
  have he : emptyB T = false := by
    cases he : emptyB T
    · rfl
    · simp [plainB, he] at hp
  have hO : ambO T = none := by
    cases hO : ambO T with
    | none => rfl
    | some t => simp [plainB, hO] at hp
  have hl : ruL T s = l := by
    unfold ruL
    rw [if_pos hc, hu]
    rfl
  have hin := used_in hu
  have ht : ruT T s = romL T l := by unfold ruT; rw [hl]
  obtain ⟨h1, h2⟩ := fp_rom (roms_ne he) hO hin
  have hs : signsL T l = s := usedF_signs hu
  have hl0 : 0 < l.length := by
    rcases Nat.eq_zero_or_pos l.length with h0 | h0
    · have := List.eq_nil_of_length_eq_zero h0
      subst this
      have hs2 : s = [] := by simpa [signsL] using hs.symm
      rw [hs2] at hlen
      simp at hlen
    · exact h0
  have hst : stb T l = true := by
    unfold stb
    rw [hs, hu]
    simp only [Bool.and_eq_true, decide_eq_true_eq, Bool.not_eq_true', Option.isSome_some, beq_iff_eq]
    refine ⟨⟨⟨⟨hl0, ?_⟩, by omega⟩, trivial⟩, rfl⟩
    rw [Bool.eq_false_iff]
    intro hh
    obtain ⟨x, hx, hpx⟩ := List.any_eq_true.1 hh
    have hx2 := hin x hx
    have hk : x.toNat < T.length := by omega
    unfold noRomAt at hpx
    rw [List.getElem?_eq_getElem hk] at hpx
    have h3 := (noRom_iff _).1 hpx
    have h4 := emptyB_no he _ hk
    omega
  have hd : dcK T (ruT T s) = true := by
    unfold dcK
    rw [ht, h1, h2, hst]
    rfl
  have hdl : dcL T (ruT T s) = s := by
    unfold dcL
    rw [if_pos hd, ht, h2, hs]
  unfold irB
  rw [h, hd, hdl]
  simp
end Go.Proofs.YtemfhcmeeldngaaGreatDoor
