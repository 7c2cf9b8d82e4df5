import Derived.Test.YtklcaphkfdlipaaGreatDoorAoW
import Derived.Test.YtklcaphkfdlipaaGreatDoorClm2
import Derived.Test.YtklcaphkfdlipaaGreatDoorPackVn
/- The plain law of owners: the areas of all owners add up to that of the map; claimants are told by a view. -/
set_option linter.unusedSimpArgs false
set_option linter.unusedVariables false
namespace Go.Proofs.YtklcaphkfdlipaaGreatDoor
open Go.RowKit
/-- Is a text among these? -/
def hasB (L : List ByteArray) (s : ByteArray) : Bool := L.any fun t => t.toList == s.toList
theorem hasB_iff {L : List ByteArray} {s : ByteArray} : hasB L s = true ↔ s ∈ L := by
  unfold hasB
  rw [List.any_eq_true]
  constructor
  · rintro ⟨t, ht, h⟩
    rw [toList_eq, decide_eq_true_eq] at h
    exact h ▸ ht
  · exact fun h => ⟨s, h, by rw [toList_eq, decide_eq_true_eq]⟩
/-- The different names of the first owners. -/
def nmT (V : List Vw) (v : Nat) : Nat → List ByteArray
  | 0 => []
  | k + 1 => if hasB (nmT V v k) (ownAt (atV V v) k) then nmT V v k else nmT V v k ++ [ownAt (atV V v) k]
theorem nmT_yes {V : List Vw} {v k : Nat} (h : hasB (nmT V v k) (ownAt (atV V v) k) = true) : nmT V v (k + 1) = nmT V v k := by
  show (if _ then _ else _) = _
  rw [if_pos h]
theorem nmT_no {V : List Vw} {v k : Nat} (h : hasB (nmT V v k) (ownAt (atV V v) k) = false) : nmT V v (k + 1) = nmT V v k ++ [ownAt (atV V v) k] := by
  show (if _ then _ else _) = _
  rw [if_neg (by rw [h]; decide)]
theorem nmT_len (V : List Vw) (v : Nat) : ∀ k, (nmT V v k).length ≤ k
  | 0 => Nat.le_refl _
  | k + 1 => by
    have ih := nmT_len V v k
    cases h : hasB (nmT V v k) (ownAt (atV V v) k)
    · rw [nmT_no h, List.length_append]; simp; omega
    · rw [nmT_yes h]; omega
theorem nmT_mem {V : List Vw} {v : Nat} : ∀ k j, j < k → ownAt (atV V v) j ∈ nmT V v k
  | 0, j, h => absurd h (by omega)
  | k + 1, j, h => by
    cases hh : hasB (nmT V v k) (ownAt (atV V v) k)
    · rw [nmT_no hh, List.mem_append]
      rcases (show j < k ∨ j = k by omega) with h1 | rfl
      · exact .inl (nmT_mem k j h1)
      · exact .inr (by simp)
    · rw [nmT_yes hh]
      rcases (show j < k ∨ j = k by omega) with h1 | rfl
      · exact nmT_mem k j h1
      · exact hasB_iff.1 hh
theorem nmT_nodup (V : List Vw) (v : Nat) : ∀ k, (nmT V v k).Nodup
  | 0 => List.nodup_nil
  | k + 1 => by
    have ih := nmT_nodup V v k
    cases hh : hasB (nmT V v k) (ownAt (atV V v) k)
    · rw [nmT_no hh, List.nodup_append]
      refine ⟨ih, by simp, fun a ha b hb => ?_⟩
      rw [List.mem_singleton.1 hb]
      intro e
      subst e
      rw [hasB_iff.2 ha] at hh
      cases hh
    · rw [nmT_yes hh]; exact ih
def sumN (A : ByteArray → Int) (N : List ByteArray) : Int := (N.map A).sum
theorem sumN_cons (A : ByteArray → Int) (s : ByteArray) (N : List ByteArray) : sumN A (s :: N) = A s + sumN A N := by simp [sumN]
theorem sumN_snoc (A : ByteArray → Int) (s : ByteArray) (N : List ByteArray) : sumN A (N ++ [s]) = sumN A N + A s := by simp [sumN]
theorem sumN_add {A B C : ByteArray → Int} (h : ∀ s, A s = B s + C s) : ∀ N, sumN A N = sumN B N + sumN C N
  | [] => rfl
  | s :: N => by rw [sumN_cons, sumN_cons, sumN_cons, sumN_add h N, h]; omega
theorem sumN_zero {A : ByteArray → Int} : ∀ {N : List ByteArray}, (∀ s ∈ N, A s = 0) → sumN A N = 0
  | [], _ => rfl
  | s :: N, h => by rw [sumN_cons, h s (by simp), sumN_zero (N := N) fun t ht => h t (by simp [ht])]; rfl
theorem sumN_one {A : ByteArray → Int} {o : ByteArray} {x : Int} (h1 : A o = x) (h0 : ∀ s, s ≠ o → A s = 0) : ∀ {N : List ByteArray}, N.Nodup → o ∈ N → sumN A N = x
  | [], _, h => by cases h
  | s :: N, hd, h => by
    rw [List.nodup_cons] at hd
    rw [sumN_cons]
    rcases List.mem_cons.1 h with rfl | h
    · rw [h1, sumN_zero fun t ht => h0 t fun e => hd.1 (e ▸ ht)]; omega
    · rw [h0 s fun e => hd.1 (e ▸ h), sumN_one h1 h0 hd.2 h]; omega
theorem sumN_bd {A : ByteArray → Int} {M : Int} : ∀ {N : List ByteArray}, (∀ s ∈ N, 0 ≤ A s ∧ A s ≤ M) → 0 ≤ sumN A N ∧ sumN A N ≤ M * (N.length : Int)
  | [], _ => by simp [sumN]
  | s :: N, h => by
    have h1 := h s (by simp)
    have h2 := sumN_bd (N := N) fun t ht => h t (by simp [ht])
    rw [sumN_cons, List.length_cons]
    have e : M * ((N.length + 1 : Nat) : Int) = M * (N.length : Int) + M := by rw [Int.natCast_succ, Int.mul_add, Int.mul_one]
    omega
/-- The areas of all owners together. -/
theorem sumN_all {R : List (List Pt)} {V : List Vw} {v : Nat} {N : List ByteArray} (hN : N.Nodup) : ∀ k, (∀ j, j < k → ownAt (atV V v) j ∈ N) → sumN (fun s => arTo R (isO V v s) k) N = arTo R (fun _ => true) k
  | 0, _ => sumN_zero fun s _ => rfl
  | k + 1, h => by
    have ih := sumN_all (R := R) hN k fun j hj => h j (by omega)
    rw [arTo_yes (p := fun _ => true) rfl, ← ih]
    rw [sumN_add (B := fun s => arTo R (isO V v s) k) (C := fun s => if isO V v s k then aRing (R.getD k []) else 0) (fun s => by
      show (if isO V v s k then _ else _) = _
      split <;> omega)]
    congr 1
    refine sumN_one (o := ownAt (atV V v) k) ?_ (fun s hs => ?_) hN (h k (by omega))
    · rw [if_pos]
      unfold isO
      rw [toList_eq, decide_eq_true_eq]
    · rw [if_neg]
      unfold isO
      rw [toList_eq, decide_eq_true_eq]
      exact fun e => hs e.symm
theorem owners_sum (R : List (List Pt)) (V : List Vw) (v : Nat) : sumN (fun s => arTo R (isO V v s) R.length) (nmT V v R.length) = arTo R (fun _ => true) R.length :=
  sumN_all (nmT_nodup V v _) _ fun j hj => nmT_mem _ j hj
/-- Does one of the first views tell this owner for a ring? -/
def telT (V : List Vw) (i : Nat) (s : ByteArray) : Nat → Bool
  | 0 => false
  | k + 1 => telT V i s k || ((ownAt (atV V k) i).toList == s.toList)
theorem telT_yes {V : List Vw} {i : Nat} {s : ByteArray} : ∀ {n k : Nat}, k < n → ownAt (atV V k) i = s → telT V i s n = true
  | 0, k, h, _ => absurd h (by omega)
  | n + 1, k, h, e => by
    show (telT V i s n || _) = true
    rcases (show k < n ∨ k = n by omega) with h1 | rfl
    · rw [telT_yes h1 e]; rfl
    · rw [Bool.or_eq_true]; right
      rw [toList_eq, decide_eq_true_eq]; exact e
theorem clTo_mem {V : List Vw} {i : Nat} {s : ByteArray} : ∀ {n : Nat}, s ∈ clTo V i n → ∃ k, k < n ∧ ownAt (atV V k) i = s
  | 0, h => by cases h
  | n + 1, h => by
    cases hh : (ownAt (atV V n) i).toList.isEmpty
    · rw [clTo_yes hh, List.mem_append] at h
      rcases h with h | h
      · obtain ⟨k, h1, h2⟩ := clTo_mem h
        exact ⟨k, by omega, h2⟩
      · exact ⟨n, by omega, (List.mem_singleton.1 h).symm⟩
    · rw [clTo_no hh] at h
      obtain ⟨k, h1, h2⟩ := clTo_mem h
      exact ⟨k, by omega, h2⟩
/-- Each claimant is told by a view. -/
theorem claims_told {R : List (List Pt)} {V : List Vw} {x : Int} (h : clC R V x = 0) {s : ByteArray} (hs : s ∈ clL R V x) : telT V x.toNat s V.length = true := by
  unfold clL at hs
  rw [if_pos h] at hs
  obtain ⟨k, h1, h2⟩ := clTo_mem (((uniq_spec _).2 s).1 hs)
  exact telT_yes h1 h2
end Go.Proofs.YtklcaphkfdlipaaGreatDoor
