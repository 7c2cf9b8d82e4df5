import Derived.Test.YtcpddgkloeklaaaGreatDoorRises
/- Least sets of indices: the plain law of listing them in order. -/
set_option linter.unusedSimpArgs false
set_option linter.unusedVariables false
namespace Go.Proofs.YtcpddgkloeklaaaGreatDoor
/-- Increasing indices below `n`. -/
structure Ixs (n : Nat) (S : List Int) : Prop where
  inc : S.Pairwise (· < ·)
  bd : ∀ x ∈ S, 0 ≤ x ∧ x < n
theorem Ixs.sub {n : Nat} {S T : List Int} (h : Ixs n T) (hs : S.Sublist T) : Ixs n S := ⟨h.inc.sublist hs, fun x hx => h.bd x (hs.subset hx)⟩
theorem Ixs.nodup {n : Nat} {S : List Int} (h : Ixs n S) : S.Nodup := h.inc.imp fun hab => by omega
theorem ixs_nil (n : Nat) : Ixs n [] := ⟨.nil, fun x hx => by simp at hx⟩
theorem Ixs.rises {n : Nat} {S : List Int} (h : Ixs n S) : Rises S n := fun i hi =>
  ⟨S[i], List.getElem?_eq_getElem hi, (h.bd _ (List.getElem_mem hi)).1, by have := (h.bd _ (List.getElem_mem hi)).2; omega, fun y h0 hy => by
    rw [List.getElem?_eq_getElem (by omega)] at hy
    obtain rfl := Option.some.inj hy
    exact List.pairwise_iff_getElem.1 h.inc (i - 1) i (by omega) hi (by omega)⟩
theorem Rises.step {n : Int} {S : List Int} (h : Rises S n) {i : Nat} (hi : i + 1 < S.length) : S[i] < S[i + 1] := by
  obtain ⟨x, h1, _, _, h4⟩ := h (i + 1) hi
  rw [List.getElem?_eq_getElem hi] at h1
  obtain rfl := Option.some.inj h1
  exact h4 _ (by omega) (List.getElem?_eq_getElem (by omega))
theorem Rises.mono {n : Int} {S : List Int} (h : Rises S n) (i : Nat) : ∀ (d : Nat) (hd : i + d + 1 < S.length), S[i] < S[i + d + 1]
  | 0, hd => h.step hd
  | d + 1, hd => by
    have h1 := Rises.mono h i d (by omega)
    have h2 := h.step (i := i + d + 1) (by omega)
    exact Int.lt_trans h1 h2
theorem ixs_of_rises {n : Nat} {S : List Int} (h : Rises S n) : Ixs n S := by
  refine ⟨List.pairwise_iff_getElem.2 fun i j hi hj hij => ?_, fun x hx => ?_⟩
  · have := h.mono i (j - i - 1) (by omega)
    simp only [show i + (j - i - 1) + 1 = j by omega] at this
    exact this
  · obtain ⟨i, hi, rfl⟩ := List.mem_iff_getElem.1 hx
    obtain ⟨x, h1, h2, h3, _⟩ := h i hi
    rw [List.getElem?_eq_getElem hi] at h1
    obtain rfl := Option.some.inj h1
    exact ⟨h2, by omega⟩
/-- More indices are as good. -/
def Mono (n : Nat) (G : List Int → Bool) : Prop := ∀ S T, Ixs n T → S.Sublist T → G S = true → G T = true
/-- Good, and none of those with one index less is. -/
def minB (G : List Int → Bool) (S : List Int) : Bool := G S && (List.range S.length).all fun i => !G (S.eraseIdx i)
theorem minB_iff {G : List Int → Bool} {S : List Int} : minB G S = true ↔ G S = true ∧ ∀ i, i < S.length → G (S.eraseIdx i) = false := by
  simp [minB, List.all_eq_true]
/-- The least index that may follow. -/
def nextN (S : List Int) : Nat := match S.getLast? with | some x => x.toNat + 1 | none => 0
theorem nextN_snoc (S : List Int) (i : Nat) : nextN (S ++ [(i : Int)]) = i + 1 := by simp [nextN]
theorem nextN_nil : nextN [] = 0 := rfl
def minAll (G : List Int → Bool) (n : Nat) : Nat → List Int → List (List Int)
  | 0, S => if G S then (if minB G S then [S] else []) else []
  | f + 1, S => if G S then (if minB G S then [S] else []) else (List.range (n - nextN S)).flatMap fun j => minAll G n f (S ++ [((nextN S + j : Nat) : Int)])
theorem minAll_fuel (G : List Int → Bool) (n : Nat) : ∀ (f f' : Nat) (S : List Int), n - nextN S ≤ f → n - nextN S ≤ f' → minAll G n f S = minAll G n f' S
  | 0, 0, S, _, _ => rfl
  | 0, f' + 1, S, h, _ => by
    have : n - nextN S = 0 := by omega
    simp [minAll, this]
  | f + 1, 0, S, _, h => by
    have : n - nextN S = 0 := by omega
    simp [minAll, this]
  | f + 1, f' + 1, S, h, h' => by
    simp only [minAll]
    split
    · rfl
    · have key : ∀ l : List Nat, (∀ j ∈ l, j < n - nextN S) → l.flatMap (fun j => minAll G n f (S ++ [((nextN S + j : Nat) : Int)])) = l.flatMap (fun j => minAll G n f' (S ++ [((nextN S + j : Nat) : Int)])) := by
        intro l
        induction l with
        | nil => intro _; rfl
        | cons j l ih =>
          intro hl
          have hj := hl j (by simp)
          rw [List.flatMap_cons, List.flatMap_cons, ih fun k hk => hl k (by simp [hk]), minAll_fuel G n f f' _ (by rw [nextN_snoc]; omega) (by rw [nextN_snoc]; omega)]
      exact key _ fun j hj => List.mem_range.1 hj
/-- All least good sets that begin with some indices, in order. -/
def minZ (G : List Int → Bool) (n : Nat) (S : List Int) : List (List Int) := minAll G n (n - nextN S) S
theorem minZ_good {G : List Int → Bool} {n : Nat} {S : List Int} (h : G S = true) : minZ G n S = if minB G S then [S] else [] := by
  unfold minZ
  cases n - nextN S <;> simp [minAll, h]
/-- What the rounds up to `k` have listed. -/
def minTo (G : List Int → Bool) (n : Nat) (S : List Int) (k : Nat) : List (List Int) := (List.range k).flatMap fun j => minZ G n (S ++ [((nextN S + j : Nat) : Int)])
theorem minTo_succ (G : List Int → Bool) (n : Nat) (S : List Int) (k : Nat) : minTo G n S (k + 1) = minTo G n S k ++ minZ G n (S ++ [((nextN S + k : Nat) : Int)]) := by
  simp [minTo, List.range_succ]
theorem minZ_bad {G : List Int → Bool} {n : Nat} {S : List Int} (h : G S = false) : minZ G n S = minTo G n S (n - nextN S) := by
  unfold minZ minTo
  rw [minAll_fuel G n (n - nextN S) (n - nextN S + 1) S (by omega) (by omega)]
  simp only [minAll, h, Bool.false_eq_true, if_false]
  have key : ∀ l : List Nat, (∀ j ∈ l, j < n - nextN S) → l.flatMap (fun j => minAll G n (n - nextN S) (S ++ [((nextN S + j : Nat) : Int)])) = l.flatMap (fun j => minZ G n (S ++ [((nextN S + j : Nat) : Int)])) := by
    intro l
    induction l with
    | nil => intro _; rfl
    | cons j l ih =>
      intro hl
      rw [List.flatMap_cons, List.flatMap_cons, ih fun k hk => hl k (by simp [hk])]
      unfold minZ
      rw [minAll_fuel G n (n - nextN S) (n - nextN (S ++ [((nextN S + j : Nat) : Int)])) _ (by rw [nextN_snoc]; omega) (by omega)]
  exact key _ fun j hj => List.mem_range.1 hj
theorem ixs_snoc {n : Nat} {S : List Int} (h : Ixs n S) {i : Nat} (h1 : nextN S ≤ i) (h2 : i < n) : Ixs n (S ++ [(i : Int)]) := by
  refine ⟨?_, fun x hx => ?_⟩
  · rw [List.pairwise_append]
    refine ⟨h.inc, by simp, fun a ha b hb => ?_⟩
    simp only [List.mem_cons, List.not_mem_nil, or_false] at hb
    subst hb
    rcases List.eq_nil_or_concat S with rfl | ⟨S', x, rfl⟩
    · simp at ha
    · rw [List.concat_eq_append] at *
      have hx : nextN (S' ++ [x]) = x.toNat + 1 := by simp [nextN]
      have hx0 := h.bd x (by simp)
      rcases List.mem_append.1 ha with ha | ha
      · have := (List.pairwise_append.1 h.inc).2.2 a ha x (by simp)
        omega
      · simp only [List.mem_cons, List.not_mem_nil, or_false] at ha
        omega
  · rcases List.mem_append.1 hx with hx | hx
    · exact h.bd x hx
    · simp only [List.mem_cons, List.not_mem_nil, or_false] at hx
      omega
theorem next_le {n : Nat} {S r : List Int} {i : Int} (h : Ixs n (S ++ i :: r)) : nextN S ≤ i.toNat := by
  rcases List.eq_nil_or_concat S with rfl | ⟨S', x, rfl⟩
  · simp [nextN]
  · rw [List.concat_eq_append] at *
    have hx : nextN (S' ++ [x]) = x.toNat + 1 := by simp [nextN]
    have hx0 := h.bd x (by simp)
    have := (List.pairwise_append.1 h.inc).2.2 x (by simp) i (by simp)
    omega
theorem mem_minAll {G : List Int → Bool} {n : Nat} (hG : Mono n G) : ∀ (f : Nat) (S : List Int), n - nextN S ≤ f → Ixs n S → ∀ T, T ∈ minAll G n f S ↔ Ixs n T ∧ S <+: T ∧ minB G T = true := by
  have case1 : ∀ S, Ixs n S → G S = true → ∀ T, (T ∈ if minB G S then [S] else []) ↔ Ixs n T ∧ S <+: T ∧ minB G T = true := by
    intro S hS hg T
    constructor
    · intro h
      split at h
      · rename_i hm
        simp only [List.mem_cons, List.not_mem_nil, or_false] at h
        subst h
        exact ⟨hS, List.prefix_refl _, hm⟩
      · simp at h
    · rintro ⟨h1, ⟨r, rfl⟩, h3⟩
      rcases List.eq_nil_or_concat r with rfl | ⟨r', x, rfl⟩
      · rw [List.append_nil] at h3 ⊢; rw [if_pos h3]; simp
      · exfalso
        rw [List.concat_eq_append] at *
        have h4 := (minB_iff.1 h3).2 (S ++ r').length (by simp only [List.length_append, List.length_cons, List.length_nil]; omega)
        rw [show (S ++ (r' ++ [x])).eraseIdx (S ++ r').length = S ++ r' by rw [← List.append_assoc, List.eraseIdx_append_of_length_le (Nat.le_refl _), Nat.sub_self]; exact List.append_nil _] at h4
        rw [hG S (S ++ r') (h1.sub (by rw [← List.append_assoc]; exact List.sublist_append_left _ _)) (List.sublist_append_left _ _) hg] at h4
        cases h4
  intro f
  induction f with
  | zero =>
    intro S hf hS T
    rw [minAll]
    by_cases hg : G S = true
    · rw [if_pos hg]; exact case1 S hS hg T
    · rw [if_neg hg]
      constructor
      · intro h; simp at h
      · rintro ⟨h1, ⟨r, rfl⟩, h3⟩
        cases r with
        | nil => rw [List.append_nil] at h3; exact absurd (minB_iff.1 h3).1 hg
        | cons i r =>
          have := next_le h1
          have := (h1.bd i (by simp))
          omega
  | succ f ih =>
    intro S hf hS T
    rw [minAll]
    by_cases hg : G S = true
    · rw [if_pos hg]; exact case1 S hS hg T
    · rw [if_neg hg, List.mem_flatMap]
      constructor
      · rintro ⟨j, hj, hT⟩
        have hj := List.mem_range.1 hj
        obtain ⟨h1, h2, h3⟩ := (ih _ (by rw [nextN_snoc]; omega) (ixs_snoc hS (by omega) (by omega)) T).1 hT
        exact ⟨h1, (List.prefix_append _ _).trans h2, h3⟩
      · rintro ⟨h1, ⟨r, rfl⟩, h3⟩
        cases r with
        | nil => rw [List.append_nil] at h3; exact absurd (minB_iff.1 h3).1 hg
        | cons i r =>
          have h4 := next_le h1
          have h5 := h1.bd i (by simp)
          refine ⟨i.toNat - nextN S, List.mem_range.2 (by omega), ?_⟩
          have e : ((nextN S + (i.toNat - nextN S) : Nat) : Int) = i := by omega
          rw [e]
          have hi : Ixs n (S ++ [i]) := h1.sub (by rw [show S ++ i :: r = (S ++ [i]) ++ r by simp]; exact List.sublist_append_left _ _)
          refine (ih _ ?_ hi _).2 ⟨h1, ⟨r, by simp⟩, h3⟩
          rw [← e, nextN_snoc]; omega
theorem mem_minZ {G : List Int → Bool} {n : Nat} (hG : Mono n G) {S : List Int} (hS : Ixs n S) (T : List Int) : T ∈ minZ G n S ↔ Ixs n T ∧ S <+: T ∧ minB G T = true := mem_minAll hG _ S (Nat.le_refl _) hS T
theorem minAll_sorted {G : List Int → Bool} {n : Nat} (hG : Mono n G) : ∀ (f : Nat) (S : List Int), n - nextN S ≤ f → Ixs n S → (minAll G n f S).Pairwise (· < ·) := by
  have case1 : ∀ S, (if minB G S then [S] else []).Pairwise (· < ·) := by intro S; split <;> simp
  intro f
  induction f with
  | zero =>
    intro S hf hS
    rw [minAll]
    split
    · exact case1 S
    · simp
  | succ f ih =>
    intro S hf hS
    rw [minAll]
    split
    · exact case1 S
    · rw [List.pairwise_flatMap]
      refine ⟨fun j hj => ?_, ?_⟩
      · have hj := List.mem_range.1 hj
        exact ih _ (by rw [nextN_snoc]; omega) (ixs_snoc hS (by omega) (by omega))
      · refine (List.pairwise_lt_range (n := n - nextN S)).imp_of_mem ?_
        intro a b ha hb hab x hx y hy
        have ha := List.mem_range.1 ha
        have hb := List.mem_range.1 hb
        obtain ⟨_, ⟨r, rfl⟩, _⟩ := (mem_minAll hG f _ (by rw [nextN_snoc]; omega) (ixs_snoc hS (i := nextN S + a) (by omega) (by omega)) x).1 hx
        obtain ⟨_, ⟨r', rfl⟩, _⟩ := (mem_minAll hG f _ (by rw [nextN_snoc]; omega) (ixs_snoc hS (i := nextN S + b) (by omega) (by omega)) y).1 hy
        rw [List.append_assoc, List.append_assoc]
        refine List.append_left_lt ?_
        show (((nextN S + a : Nat) : Int) :: r) < (((nextN S + b : Nat) : Int) :: r')
        rw [List.cons_lt_cons_iff]
        left
        omega
theorem minZ_sorted {G : List Int → Bool} {n : Nat} (hG : Mono n G) {S : List Int} (hS : Ixs n S) : (minZ G n S).Pairwise (· < ·) := minAll_sorted hG _ S (Nat.le_refl _) hS
/-- Two increasing lists of the same elements are the same. -/
theorem sorted_unique {α : Type} {R : α → α → Prop} (irr : ∀ a, ¬ R a a) (asy : ∀ a b, R a b → ¬ R b a) : ∀ {l m : List α}, l.Pairwise R → m.Pairwise R → (∀ x, x ∈ l ↔ x ∈ m) → l = m
  | [], [], _, _, _ => rfl
  | [], y :: m, _, _, h => by have := (h y).2 (by simp); simp at this
  | x :: l, [], _, _, h => by have := (h x).1 (by simp); simp at this
  | x :: l, y :: m, hl, hm, h => by
    have hl' := List.pairwise_cons.1 hl
    have hm' := List.pairwise_cons.1 hm
    have e : x = y := by
      rcases List.mem_cons.1 ((h x).1 (by simp)) with e | h1
      · exact e
      · rcases List.mem_cons.1 ((h y).2 (by simp)) with e | h2
        · exact e.symm
        · exact absurd (hm'.1 x h1) (asy _ _ (hl'.1 y h2))
    subst e
    rw [sorted_unique irr asy hl'.2 hm'.2 fun z => ?_]
    constructor
    · intro hz
      rcases List.mem_cons.1 ((h z).1 (by simp [hz])) with rfl | h1
      · exact absurd (hl'.1 _ hz) (irr _)
      · exact h1
    · intro hz
      rcases List.mem_cons.1 ((h z).2 (by simp [hz])) with rfl | h1
      · exact absurd (hm'.1 _ hz) (irr _)
      · exact h1
/-- There is a least good set below every good one. -/
theorem exists_min {G : List Int → Bool} : ∀ (k : Nat) (S : List Int), S.length ≤ k → G S = true → ∃ T, T.Sublist S ∧ minB G T = true
  | 0, S, hk, hg => ⟨S, List.Sublist.refl _, minB_iff.2 ⟨hg, fun i hi => by omega⟩⟩
  | k + 1, S, hk, hg => by
    by_cases h : ∃ i, i < S.length ∧ G (S.eraseIdx i) = true
    · obtain ⟨i, hi, hgi⟩ := h
      have hl := List.length_eraseIdx_of_lt hi
      obtain ⟨T, hT, hm⟩ := exists_min k (S.eraseIdx i) (by omega) hgi
      exact ⟨T, hT.trans (List.eraseIdx_sublist S i), hm⟩
    · refine ⟨S, List.Sublist.refl _, minB_iff.2 ⟨hg, fun i hi => ?_⟩⟩
      cases hh : G (S.eraseIdx i) with
      | false => rfl
      | true => exact absurd ⟨i, hi, hh⟩ h
/-! ### Sets as numbers -/
/-- The indices whose bits a number has. -/
def subN (n b : Nat) : List Int := ((List.range n).filter fun i => b.testBit i).map fun (i : Nat) => (i : Int)
theorem mem_subN {n b : Nat} {x : Int} : x ∈ subN n b ↔ ∃ i : Nat, x = i ∧ i < n ∧ b.testBit i = true := by
  simp only [subN, List.mem_map, List.mem_filter, List.mem_range]
  exact ⟨fun ⟨i, ⟨h1, h2⟩, h3⟩ => ⟨i, h3.symm, h1, h2⟩, fun ⟨i, h1, h2, h3⟩ => ⟨i, ⟨h2, h3⟩, h1.symm⟩⟩
theorem ixs_subN (n b : Nat) : Ixs n (subN n b) := by
  refine ⟨?_, fun x hx => ?_⟩
  · unfold subN
    rw [List.pairwise_map]
    refine ((List.pairwise_lt_range (n := n)).sublist List.filter_sublist).imp fun h => ?_
    omega
  · obtain ⟨i, rfl, h, _⟩ := mem_subN.1 hx
    omega
theorem ixs_ext {n : Nat} {S T : List Int} (hS : Ixs n S) (hT : Ixs n T) (h : ∀ x, x ∈ S ↔ x ∈ T) : S = T :=
  sorted_unique (R := (· < ·)) (fun a => by omega) (fun a b => by omega) hS.inc hT.inc h
/-- The number of a set. -/
def numOf : List Int → Nat
  | [] => 0
  | x :: S => 2 ^ x.toNat ||| numOf S
theorem testBit_numOf : ∀ (S : List Int) (i : Nat), (∀ x ∈ S, 0 ≤ x) → ((numOf S).testBit i = true ↔ (i : Int) ∈ S)
  | [], i, _ => by simp [numOf]
  | x :: S, i, h => by
    rw [numOf, Nat.testBit_or, Bool.or_eq_true, testBit_numOf S i fun y hy => h y (by simp [hy]), Nat.testBit_two_pow, decide_eq_true_eq, List.mem_cons]
    have := h x (by simp)
    constructor
    · rintro (h1 | h1)
      · left; omega
      · exact .inr h1
    · rintro (h1 | h1)
      · left; omega
      · exact .inr h1
theorem subN_numOf {n : Nat} {S : List Int} (h : Ixs n S) : numOf S < 2 ^ n ∧ subN n (numOf S) = S := by
  have hp : ∀ x ∈ S, 0 ≤ x := fun x hx => (h.bd x hx).1
  refine ⟨Nat.lt_pow_two_of_testBit _ fun i hi => ?_, ixs_ext (ixs_subN _ _) h fun x => ?_⟩
  · cases hb : (numOf S).testBit i with
    | false => rfl
    | true =>
      have := h.bd _ ((testBit_numOf S i hp).1 hb)
      omega
  · rw [mem_subN]
    constructor
    · rintro ⟨i, rfl, _, hb⟩
      exact (testBit_numOf S i hp).1 hb
    · intro hx
      have := h.bd x hx
      refine ⟨x.toNat, by omega, by omega, (testBit_numOf S _ hp).2 ?_⟩
      rw [show ((x.toNat : Nat) : Int) = x by omega]
      exact hx
end Go.Proofs.YtcpddgkloeklaaaGreatDoor
