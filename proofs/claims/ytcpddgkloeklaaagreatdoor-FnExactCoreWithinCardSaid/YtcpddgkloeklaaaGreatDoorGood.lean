import Derived.Test.YtcpddgkloeklaaaGreatDoorBits
import Derived.Test.YtcpddgkloeklaaaGreatDoorPick
import Derived.Test.YtcpddgkloeklaaaGreatDoorExist
/- Repairs and cores as sets of indices: the plain law. -/
set_option linter.unusedSimpArgs false
set_option linter.unusedVariables false
namespace Go.Proofs.YtcpddgkloeklaaaGreatDoor
theorem cons_sub_b {L L' : List Clm} (hs : L'.Sublist L) (h : consB L = true) : consB L' = true := bof_true ((of_bof h).sub hs)
/-- The claims with these indices are not consistent. -/
noncomputable def coreG (L : List Clm) (S : List Int) : Bool := !consB (pick L S)
/-- What is left without these indices is consistent. -/
noncomputable def repG (L : List Clm) (S : List Int) : Bool := consB (keptL L S)
theorem pick_sub {L : List Clm} {S T : List Int} (h : S.Sublist T) : (pick L S).Sublist (pick L T) := h.filterMap _
theorem restTo_sub {S T : List Int} (h : ∀ x ∈ S, x ∈ T) (k : Nat) : (restTo T k).Sublist (restTo S k) := by
  unfold restTo
  have e : (((List.range k).map fun (i : Nat) => (i : Int)).filter fun i => !T.contains i) = ((((List.range k).map fun (i : Nat) => (i : Int)).filter fun i => !S.contains i).filter fun i => !T.contains i) := by
    rw [List.filter_filter]
    apply List.filter_congr
    intro x _
    cases hT : T.contains x
    · have : S.contains x = false := by
        rw [Bool.eq_false_iff]
        intro hc
        rw [List.contains_iff_mem] at hc
        have := List.contains_iff_mem.2 (h x hc)
        rw [hT] at this; cases this
      rw [this]; rfl
    · simp
  rw [e]
  exact List.filter_sublist
theorem coreG_mono (L : List Clm) : Mono L.length (coreG L) := fun S T _ hs h => by
  unfold coreG at *
  cases hT : consB (pick L T)
  · rfl
  · rw [cons_sub_b (pick_sub hs) hT] at h; cases h
theorem repG_mono (L : List Clm) : Mono L.length (repG L) := fun S T _ hs h => by
  unfold repG at *
  exact cons_sub_b (pick_sub (restTo_sub (fun x hx => hs.subset hx) _)) h
theorem ixs_rest (S : List Int) (k : Nat) : Ixs k (restTo S k) := by
  refine ⟨?_, fun x hx => restTo_within S k x hx⟩
  unfold restTo
  refine List.Pairwise.sublist List.filter_sublist ?_
  rw [List.pairwise_map]
  exact List.pairwise_lt_range.imp fun h => by omega
theorem mem_rest {S : List Int} {k : Nat} {x : Int} : x ∈ restTo S k ↔ (0 ≤ x ∧ x < k) ∧ ¬ x ∈ S := by
  unfold restTo
  rw [List.mem_filter, List.mem_map]
  constructor
  · rintro ⟨⟨i, hi, rfl⟩, h⟩
    have := List.mem_range.1 hi
    refine ⟨by omega, fun hc => ?_⟩
    rw [List.contains_iff_mem.2 hc] at h
    cases h
  · rintro ⟨⟨h1, h2⟩, h⟩
    refine ⟨⟨x.toNat, List.mem_range.2 (by omega), by omega⟩, ?_⟩
    cases hc : S.contains x
    · rfl
    · exact absurd (List.contains_iff_mem.1 hc) h
theorem sorted_sub : ∀ {S T : List Int}, S.Pairwise (· < ·) → T.Pairwise (· < ·) → (∀ x ∈ S, x ∈ T) → S.Sublist T
  | [], T, _, _, _ => List.nil_sublist T
  | x :: S, [], _, _, h => absurd (h x (by simp)) (by simp)
  | x :: S, y :: T, hS, hT, h => by
    have hS' := List.pairwise_cons.1 hS
    have hT' := List.pairwise_cons.1 hT
    by_cases e : x = y
    · subst e
      refine (sorted_sub hS'.2 hT'.2 fun z hz => ?_).cons_cons x
      rcases List.mem_cons.1 (h z (by simp [hz])) with e | h1
      · have := hS'.1 z hz; omega
      · exact h1
    · refine (sorted_sub hS hT'.2 fun z hz => ?_).cons y
      rcases List.mem_cons.1 (h z hz) with e2 | h1
      · subst e2
        rcases List.mem_cons.1 hz with e3 | hz2
        · exact absurd e3.symm e
        · have h2 := hS'.1 z hz2
          rcases List.mem_cons.1 (h x (by simp)) with e4 | h4
          · exact absurd e4 e
          · have := hT'.1 x h4; omega
      · exact h1
/-- Indices hit all cores exactly if what is left without them is consistent. -/
theorem hits_law (L : List Clm) {S : List Int} (hS : Ixs L.length S) : ((minZ (coreG L) L.length []).all fun T => S.any fun x => T.contains x) = repG L S := by
  rw [Bool.eq_iff_iff, List.all_eq_true]
  constructor
  · intro h
    cases hr : repG L S
    · exfalso
      have hg : coreG L (restTo S L.length) = true := by unfold coreG; unfold repG keptL at hr; rw [hr]; rfl
      obtain ⟨T, hT, hs⟩ := least_in (coreG_mono L) (ixs_rest S L.length) hg
      obtain ⟨x, hx, hc⟩ := List.any_eq_true.1 (h T hT)
      exact (mem_rest.1 (hs.subset (List.contains_iff_mem.1 hc))).2 hx
    · rfl
  · intro hr T hT
    obtain ⟨hI, _, hm⟩ := (mem_minZ (coreG_mono L) (ixs_nil _) T).1 hT
    cases hh : S.any fun x => T.contains x
    · exfalso
      have hsub : T.Sublist (restTo S L.length) := sorted_sub hI.inc (ixs_rest S _).inc fun x hx => mem_rest.2 ⟨hI.bd x hx, fun hxs => by
        have := List.any_eq_true.2 ⟨x, hxs, List.contains_iff_mem.2 hx⟩
        rw [hh] at this; cases this⟩
      have h1 := (minB_iff.1 hm).1
      unfold coreG at h1
      unfold repG keptL at hr
      rw [cons_sub_b (pick_sub hsub) hr] at h1
      cases h1
    · rfl
/-! ### One index after the other is left out where that is still good -/
def shrinkL (G : List Int → Bool) : Nat → List Int → Nat → List Int
  | 0, out, _ => out
  | f + 1, out, i => if i < out.length then (if G (out.eraseIdx i) then shrinkL G f (out.eraseIdx i) i else shrinkL G f out (i + 1)) else out
def shrinkS (G : List Int → Bool) (out : List Int) (i : Nat) : List Int := shrinkL G (out.length - i) out i
theorem shrinkS_yes {G : List Int → Bool} {out : List Int} {i : Nat} (hi : i < out.length) (h : G (out.eraseIdx i) = true) : shrinkS G out i = shrinkS G (out.eraseIdx i) i := by
  unfold shrinkS
  rw [show out.length - i = (out.length - i - 1) + 1 by omega, shrinkL, if_pos hi, if_pos h, List.length_eraseIdx_of_lt hi]
  congr 1
  omega
theorem shrinkS_no {G : List Int → Bool} {out : List Int} {i : Nat} (hi : i < out.length) (h : G (out.eraseIdx i) = false) : shrinkS G out i = shrinkS G out (i + 1) := by
  unfold shrinkS
  rw [show out.length - i = (out.length - (i + 1)) + 1 by omega, shrinkL, if_pos hi, h]
  rfl
theorem shrinkS_end {G : List Int → Bool} {out : List Int} {i : Nat} (hi : out.length ≤ i) : shrinkS G out i = out := by
  unfold shrinkS
  rw [show out.length - i = 0 by omega]
  rfl
theorem shrinkL_le (G : List Int → Bool) : ∀ (f : Nat) (out : List Int) (i : Nat), (shrinkL G f out i).length ≤ out.length
  | 0, out, i => Nat.le_refl _
  | f + 1, out, i => by
    rw [shrinkL]
    split
    · split
      · have := shrinkL_le G f (out.eraseIdx i) i
        have := List.length_eraseIdx_le out i
        omega
      · exact shrinkL_le G f out (i + 1)
    · exact Nat.le_refl _
end Go.Proofs.YtcpddgkloeklaaaGreatDoor
