import Derived.Test.YtflcfdiochohgaaDoorPackB
/- Circles: each place of one lies in the next one, and claims with a circle are not consistent (plain law). -/
set_option linter.unusedSimpArgs false
set_option linter.unusedVariables false
namespace Go.Proofs.YtflcfdiochohgaaDoor
/-- Each leads to the next. -/
def Chain (f : ByteArray → Option ByteArray) (l : List ByteArray) : Prop := ∀ (i : Nat) (x y : ByteArray), l[i]? = some x → l[i + 1]? = some y → f x = some y
theorem chain_one (f : ByteArray → Option ByteArray) (p : ByteArray) : Chain f ([] ++ [p]) := fun i x y hx hy => by simp at hy
theorem chain_snoc {f : ByteArray → Option ByteArray} {out : List ByteArray} {p nx : ByteArray} (hc : Chain f (out ++ [p])) (hf : f p = some nx) : Chain f (out ++ [p] ++ [nx]) := by
  intro i x y hx hy
  have hl : (out ++ [p]).length = out.length + 1 := by simp
  rcases Nat.lt_trichotomy (i + 1) (out ++ [p]).length with h | h | h
  · rw [List.getElem?_append_left h] at hy
    rw [List.getElem?_append_left (by omega)] at hx
    exact hc i x y hx hy
  · rw [List.getElem?_append_right (by omega), h, Nat.sub_self] at hy
    obtain rfl : nx = y := by simpa using hy
    rw [List.getElem?_append_left (by omega), List.getElem?_append_right (by omega), show i - out.length = 0 by omega] at hx
    obtain rfl : p = x := by simpa using hx
    exact hf
  · rw [List.getElem?_eq_none (by simp at h ⊢; omega)] at hy
    cases hy
theorem circ_pre {f : ByteArray → Option ByteArray} {place : ByteArray} : ∀ {n : Nat} {out : List ByteArray} {p : ByteArray} {r : List ByteArray}, circ f place n out p = some r → ∃ t, r = out ++ [p] ++ t
  | 0, out, p, r, h => by cases h
  | n + 1, out, p, r, h => by
    rw [circ] at h
    cases hf : f p with
    | none => rw [hf] at h; cases h
    | some nx =>
      rw [hf] at h
      simp only at h
      split at h
      · exact ⟨[], by rw [← Option.some.inj h]; simp⟩
      · split at h
        · cases h
        · obtain ⟨t, ht⟩ := circ_pre h
          exact ⟨[nx] ++ t, by rw [ht]; simp⟩
theorem circ_chain {f : ByteArray → Option ByteArray} {place : ByteArray} : ∀ {n : Nat} {out : List ByteArray} {p : ByteArray} {r : List ByteArray}, circ f place n out p = some r → Chain f (out ++ [p]) → (out ++ [p])[0]? = some place →
    Chain f r ∧ r[0]? = some place ∧ ∃ t z, r = t ++ [z] ∧ f z = some place
  | 0, out, p, r, h, _, _ => by cases h
  | n + 1, out, p, r, h, hc, h0 => by
    rw [circ] at h
    cases hf : f p with
    | none => rw [hf] at h; cases h
    | some nx =>
      rw [hf] at h
      simp only at h
      split at h
      · rename_i hnx
        have := Option.some.inj h
        subst this
        exact ⟨hc, h0, out, p, rfl, by rw [hf, hnx]⟩
      · split at h
        · cases h
        · refine circ_chain h (chain_snoc hc hf) ?_
          rw [List.getElem?_append_left (by simp)]
          exact h0
theorem circ_on {f g : ByteArray → Option ByteArray} {place : ByteArray} : ∀ {n : Nat} {out : List ByteArray} {p : ByteArray} {r : List ByteArray}, circ f place n out p = some r → (∀ x ∈ r, ∀ v, f x = some v → g x = some v) → circ g place n out p = some r
  | 0, out, p, r, h, _ => by cases h
  | n + 1, out, p, r, h, hfg => by
    have hp : p ∈ r := by
      obtain ⟨t, ht⟩ := circ_pre h
      rw [ht]; simp
    rw [circ] at h ⊢
    cases hf : f p with
    | none => rw [hf] at h; cases h
    | some nx =>
      rw [hf] at h
      rw [hfg p hp nx hf]
      simp only at h ⊢
      split
      · rename_i h1; rw [if_pos h1] at h; exact h
      · rename_i h1
        rw [if_neg h1] at h
        split
        · rename_i h2; rw [if_pos h2] at h; cases h
        · rename_i h2; rw [if_neg h2] at h; exact circ_on h hfg
theorem exists_late : ∀ (l : List Clm), l ≠ [] → ∃ c ∈ l, ∀ d ∈ l, d.fr ≤ c.fr
  | [], h => absurd rfl h
  | [c], _ => ⟨c, by simp, fun d hd => by simp at hd; subst hd; exact Int.le_refl _⟩
  | c :: e :: l, _ => by
    obtain ⟨m, hm, h⟩ := exists_late (e :: l) (by simp)
    by_cases hle : m.fr ≤ c.fr
    · refine ⟨c, by simp, fun d hd => ?_⟩
      rcases List.mem_cons.1 hd with rfl | hd
      · exact Int.le_refl _
      · exact Int.le_trans (h d hd) hle
    · refine ⟨m, by simp only [List.mem_cons] at hm ⊢; exact .inr hm, fun d hd => ?_⟩
      rcases List.mem_cons.1 hd with rfl | hd
      · omega
      · exact h d hd
/-- Claims with a circle are not consistent. -/
theorem circ_bad {L : List Clm} {y : Int} {place : ByteArray} {r : List ByteArray} (h : circZ L y place = some r) : consB L = false := by
  cases hcons : consB L with
  | false => rfl
  | true =>
    exfalso
    obtain ⟨hp, hc⟩ := of_bof hcons
    obtain ⟨d0, hd0, hp0⟩ := circZ_par h
    obtain ⟨k1, k2, k3⟩ := parP_iff.1 hp0
    have hpr : place ∈ r := by
      obtain ⟨t, ht⟩ := circ_pre h
      rw [ht]; simp
    obtain ⟨c, hcS, hmax⟩ := exists_late (L.filter fun c => bof (∃ x ∈ r, parP x y c = true)) (List.ne_nil_of_mem (List.mem_filter.2 ⟨hd0, bof_true ⟨place, hpr, hp0⟩⟩))
    obtain ⟨hcL, hcb⟩ := List.mem_filter.1 hcS
    obtain ⟨x, hx, hxp⟩ := of_bof hcb
    obtain ⟨c1, c2, c3⟩ := parP_iff.1 hxp
    simp only [hasB, Bool.and_eq_true, decide_eq_true_eq] at c3
    have hz : circZ L c.fr place = some r := circ_on h fun x hx v hv => by
      obtain ⟨d, hd, hdp, rfl⟩ := parOf_some hv
      obtain ⟨e1, e2, e3⟩ := parP_iff.1 hdp
      have hle := hmax d (List.mem_filter.2 ⟨hd, bof_true ⟨x, hx, hdp⟩⟩)
      simp only [hasB, Bool.and_eq_true, decide_eq_true_eq] at e3
      have hdp' : parP x c.fr d = true := parP_iff.2 ⟨e1, e2, by simp only [hasB, Bool.and_eq_true, decide_eq_true_eq]; omega⟩
      cases hq : parOf L c.fr x with
      | none =>
        unfold parOf at hq
        rw [Option.map_eq_none_iff, List.find?_eq_none] at hq
        exact absurd hdp' (hq d hd)
      | some u =>
        obtain ⟨e, he, hep, rfl⟩ := parOf_some hq
        rw [hp.val he hd hep hdp']
    have := hc c hcL c1 d0 hd0
    rw [k2, hz] at this
    cases this
/-- Each place of a circle lies in the next one. -/
theorem circ_told {L : List Clm} {y : Int} {place : ByteArray} {r : List ByteArray} (h : circZ L y place = some r) : ∀ i (hi : i < r.length), ∃ k, ∃ (hk : k < L.length), L[k].kind = 1 ∧ L[k].place = r[i] ∧ L[k].val = r[(i + 1) % r.length]'(Nat.mod_lt _ (by omega)) ∧ L[k].fr ≤ y ∧ y ≤ L[k].to := by
  intro i hi
  obtain ⟨hc, h0, t, z, hr, hz⟩ := circ_chain h (chain_one _ _) rfl
  have key : parOf L y r[i] = some (r[(i + 1) % r.length]'(Nat.mod_lt _ (by omega))) := by
    by_cases hl : i + 1 < r.length
    · have e : (i + 1) % r.length = i + 1 := Nat.mod_eq_of_lt hl
      refine hc i _ _ (List.getElem?_eq_getElem hi) ?_
      simp only [e]
      exact List.getElem?_eq_getElem hl
    · have e1 : i + 1 = r.length := by omega
      have e : (i + 1) % r.length = 0 := by rw [e1, Nat.mod_self]
      have e2 : r[(i + 1) % r.length]'(Nat.mod_lt _ (by omega)) = place := by
        simp only [e]
        rw [List.getElem?_eq_getElem (by omega)] at h0
        exact Option.some.inj h0
      have e3 : r[i] = z := by
        have hl2 : r.length = t.length + 1 := by rw [hr]; simp
        have : r[i]? = some z := by
          rw [hr, List.getElem?_append_right (by omega), show i - t.length = 0 by omega]
          rfl
        rw [List.getElem?_eq_getElem hi] at this
        exact Option.some.inj this
      rw [e2, e3]
      exact hz
  obtain ⟨c, hcL, hp, hv⟩ := parOf_some key
  obtain ⟨k1, k2, k3⟩ := parP_iff.1 hp
  obtain ⟨k, hk, rfl⟩ := List.mem_iff_getElem.1 hcL
  simp only [hasB, Bool.and_eq_true, decide_eq_true_eq] at k3
  exact ⟨k, hk, k1, k2, hv, k3.1, k3.2⟩
theorem circ_first {L : List Clm} {y : Int} {place : ByteArray} {r : List ByteArray} (h : circZ L y place = some r) : r[0]? = some place := (circ_chain h (chain_one _ _) rfl).2.1
/-- A circle of claims has more places than one. -/
theorem circ_long {L : List Clm} {y : Int} {place : ByteArray} {r : List ByteArray} (h : circZ L y place = some r) (hv : ∀ c ∈ L, claimB c = true) : 1 < r.length := by
  have h0 := circ_first h
  have hpos : 0 < r.length := (List.getElem?_eq_some_iff.1 h0).1
  rcases Nat.lt_or_ge 1 r.length with hl | hl
  · exact hl
  · exfalso
    obtain ⟨k, hk, k1, k2, k3, _⟩ := circ_told h 0 hpos
    have e : (0 + 1) % r.length = 0 := by rw [show r.length = 1 by omega]
    simp only [e] at k3
    have hb := hv _ (List.getElem_mem hk)
    have hval : valueB L[k] = true := by
      unfold claimB at hb
      simp only [Bool.and_eq_true] at hb
      exact hb.1.1.2
    unfold valueB at hval
    rw [if_neg (by omega), if_pos k1] at hval
    simp only [Bool.and_eq_true, Bool.not_eq_true', decide_eq_false_iff_not] at hval
    exact hval.2 (k3.trans k2.symm)
end Go.Proofs.YtflcfdiochohgaaDoor
