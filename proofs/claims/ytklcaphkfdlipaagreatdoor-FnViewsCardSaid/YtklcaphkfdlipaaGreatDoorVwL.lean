import Derived.Test.YtklcaphkfdlipaaGreatDoorDar
import Derived.Test.YtklcaphkfdlipaaGreatDoorMaj3
/- The plain law of views. -/
set_option linter.unusedSimpArgs false
set_option linter.unusedVariables false
namespace Go.Proofs.YtklcaphkfdlipaaGreatDoor
open Go.RowKit
theorem othB_iff (v u : Vw) (i : Nat) : othB v u i = decide (¬ ownAt v i = ownAt u i) := by
  unfold othB
  rcases sameB (ownAt v i) (ownAt u i) with ⟨e, e1⟩ | ⟨e, e1⟩
  · rw [e1]; simp [e]
  · rw [e1]; simp [e]
theorem othB_symm (v u : Vw) (i : Nat) : othB v u i = othB u v i := by
  rw [othB_iff, othB_iff]
  exact decide_eq_decide.2 (not_congr eq_comm)
theorem othB_tri {v u t : Vw} {i : Nat} (h : othB v u i = true) : othB v t i = true ∨ othB t u i = true := by
  rw [othB_iff, decide_eq_true_eq] at h
  rw [othB_iff, othB_iff, decide_eq_true_eq, decide_eq_true_eq]
  by_cases e : ownAt v i = ownAt t i
  · exact .inr fun e2 => h (e.trans e2)
  · exact .inl e
theorem viewC_of {R : List (List Pt)} {V : List Vw} {i j : Nat} (hB : viewsB R V = true) (hi : i < V.length) (hj : j < V.length) : viewC R V [(i : Int), (j : Int)] = 0 := by
  unfold viewC
  rw [if_pos hB, if_pos]
  simp only [List.all_cons, List.all_nil, Bool.and_true, Bool.and_eq_true, inB_iff]
  omega
theorem dsN_of {R : List (List Pt)} {V : List Vw} {i j : Nat} (hB : viewsB R V = true) (hi : i < V.length) (hj : j < V.length) : dsN R V (i : Int) (j : Int) = arTo R (fun k => othB (atV V i) (atV V j) k) R.length := by
  unfold dsN; rw [if_pos (viewC_of hB hi hj)]; rfl
theorem arTo_tri {R : List (List Pt)} {p q r : Nat → Bool} (hR : ∀ x ∈ R, ringB x = true) (h : ∀ i, p i = true → q i = true ∨ r i = true) : ∀ k, k ≤ R.length → arTo R p k ≤ arTo R q k + arTo R r k
  | 0, _ => by simp [arTo]
  | k + 1, hk => by
    have ih := arTo_tri (p := p) (q := q) (r := r) hR h k (by omega)
    have hr := aRing_bd (hR _ (List.getElem_mem (show k < R.length by omega)))
    have e : R.getD k [] = R[k] := by simp [show k < R.length by omega]
    show (if p k then _ else _) ≤ (if q k then _ else _) + (if r k then _ else _)
    rw [e]
    generalize aRing R[k] = A at *
    generalize arTo R p k = P at *
    generalize arTo R q k = Q at *
    generalize arTo R r k = S at *
    have hh := h k
    cases hp : p k <;> cases hq : q k <;> cases hs : r k <;> simp only [hp, hq, hs, Bool.false_eq_true, if_true, if_false] at hh ⊢ <;> first | omega | (simp at hh)
/-- The distance is the same from the other side. -/
theorem ds_back {R : List (List Pt)} {V : List Vw} {x y : Int} (h : viewC R V [x, y] = 0) : viewC R V [y, x] = 0 ∧ dsN R V y x = dsN R V x y := by
  obtain ⟨hB, i, j, rfl, rfl, hi, hj⟩ := viewC_two h
  refine ⟨viewC_of hB hj hi, ?_⟩
  rw [dsN_of hB hi hj, dsN_of hB hj hi]
  exact arTo_congr _ fun k _ => othB_symm _ _ _
/-- A third view makes no distance shorter. -/
theorem ds_three {R : List (List Pt)} {V : List Vw} {x y : Int} (h : viewC R V [x, y] = 0) {k : Nat} (hk : k < V.length) :
    viewC R V [x, (k : Int)] = 0 ∧ viewC R V [(k : Int), y] = 0 ∧ dsN R V x y ≤ dsN R V x k + dsN R V k y ∧ 0 ≤ dsN R V x k ∧ dsN R V x k ≤ 6000000000 ∧ 0 ≤ dsN R V k y ∧ dsN R V k y ≤ 6000000000 := by
  obtain ⟨hB, i, j, rfl, rfl, hi, hj⟩ := viewC_two h
  have hR := mapB_rings (viewsB_map hB)
  have h6 := mapB_len (viewsB_map hB)
  refine ⟨viewC_of hB hi hk, viewC_of hB hk hj, ?_⟩
  rw [dsN_of hB hi hj, dsN_of hB hi hk, dsN_of hB hk hj]
  have b1 := arTo_bd (p := fun l => othB (atV V i) (atV V k) l) hR R.length (Nat.le_refl _)
  have b2 := arTo_bd (p := fun l => othB (atV V k) (atV V j) l) hR R.length (Nat.le_refl _)
  refine ⟨arTo_tri hR (fun l hl => othB_tri hl) _ (Nat.le_refl _), ?_⟩
  omega
/-- Do the first views tell the owner that the first of all tells? -/
def agreeT (V : List Vw) (i : Nat) : Nat → Bool
  | 0 => true
  | k + 1 => agreeT V i k && !othB (atV V k) (atV V 0) i
theorem agreeT_iff {V : List Vw} {i : Nat} : ∀ k, agreeT V i k = true ↔ ∀ j, j < k → othB (atV V j) (atV V 0) i = false
  | 0 => ⟨fun _ j h => absurd h (by omega), fun _ => rfl⟩
  | k + 1 => by
    show (agreeT V i k && !othB (atV V k) (atV V 0) i) = true ↔ _
    rw [Bool.and_eq_true, agreeT_iff k]
    constructor
    · rintro ⟨h1, h2⟩ j hj
      rcases Nat.lt_or_ge j k with h | h
      · exact h1 j h
      · obtain rfl : j = k := by omega
        simpa using h2
    · intro h
      exact ⟨fun j hj => h j (by omega), by rw [h k (by omega)]; rfl⟩
/-- All agree where no view tells another owner than the first one. -/
theorem agree_disp {V : List Vw} {i : Nat} : agreeT V i V.length = !dispB V i := by
  cases h : dispB V i
  · refine (agreeT_iff _).2 fun j hj => ?_
    unfold dispB at h
    rw [List.any_eq_false] at h
    have := h _ (List.getElem_mem hj)
    rw [atV_get hj]
    simpa using this
  · have h2 : agreeT V i V.length ≠ true := fun hc => by
      unfold dispB at h
      obtain ⟨v, hv, hx⟩ := List.any_eq_true.1 h
      obtain ⟨j, hj, rfl⟩ := List.mem_iff_getElem.1 hv
      have := (agreeT_iff _).1 hc j hj
      rw [atV_get hj, hx] at this
      cases this
    cases hq : agreeT V i V.length
    · rfl
    · exact absurd hq h2
theorem cnT_all {V : List Vw} {v : Vw} {i : Nat} : ∀ k, (∀ j, j < k → othB v (atV V j) i = false) → cnT V v i k = k
  | 0, _ => rfl
  | k + 1, h => by rw [cnT_no (h k (by omega)), cnT_all k fun j hj => h j (by omega)]
/-- The owner of a ring on which all agree is the owner of its majority. -/
theorem maj_agree {V : List Vw} {i : Nat} (h1 : 1 ≤ V.length) (h : agreeT V i V.length = true) : majO V i = ownAt (atV V 0) i := by
  have hb : bigB V 0 i = true := by
    unfold bigB
    rw [decide_eq_true_eq, cnT_all V.length fun j hj => by rw [othB_symm]; exact (agreeT_iff _).1 h j hj]
    omega
  exact majT_big hb V.length h1
theorem has_disp {V : List Vw} {n i : Nat} (h : i < n) : (dispTo V n).contains (i : Int) = !agreeT V i V.length := by rw [disp_mem h, agree_disp, Bool.not_not]
end Go.Proofs.YtklcaphkfdlipaaGreatDoor
