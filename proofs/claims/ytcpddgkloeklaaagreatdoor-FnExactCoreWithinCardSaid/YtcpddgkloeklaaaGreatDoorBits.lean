import Derived.Test.YtcpddgkloeklaaaGreatDoorMin
/- Least sets listed by number, then sorted: the same list. -/
set_option linter.unusedSimpArgs false
set_option linter.unusedVariables false
namespace Go.Proofs.YtcpddgkloeklaaaGreatDoor
/-- The least good sets among those with a number below `k`. -/
def bitsTo (G : List Int → Bool) (n k : Nat) : List (List Int) := ((List.range k).map (subN n)).filter (minB G)
theorem bitsTo_zero (G : List Int → Bool) (n : Nat) : bitsTo G n 0 = [] := rfl
theorem bitsTo_yes {G : List Int → Bool} {n k : Nat} (h : minB G (subN n k) = true) : bitsTo G n (k + 1) = bitsTo G n k ++ [subN n k] := by
  simp [bitsTo, List.range_succ, h]
theorem bitsTo_no {G : List Int → Bool} {n k : Nat} (h : minB G (subN n k) = false) : bitsTo G n (k + 1) = bitsTo G n k := by
  simp [bitsTo, List.range_succ, h]
theorem bitsTo_le (G : List Int → Bool) (n k : Nat) : (bitsTo G n k).length ≤ k := by
  have := List.length_filter_le (minB G) ((List.range k).map (subN n))
  simpa [bitsTo] using this
theorem subN_inj {n b b' : Nat} (h1 : b < 2 ^ n) (h2 : b' < 2 ^ n) (h : subN n b = subN n b') : b = b' := by
  apply Nat.eq_of_testBit_eq
  intro i
  by_cases hi : i < n
  · have key : ∀ {b b' : Nat}, subN n b = subN n b' → b.testBit i = true → b'.testBit i = true := fun {b b'} h hb => by
      have : (i : Int) ∈ subN n b := mem_subN.2 ⟨i, rfl, hi, hb⟩
      rw [h] at this
      obtain ⟨j, hj, _, hb'⟩ := mem_subN.1 this
      obtain rfl : i = j := by omega
      exact hb'
    cases e : b.testBit i with
    | true => rw [key h e]
    | false =>
      cases e' : b'.testBit i with
      | false => rfl
      | true => rw [key h.symm e'] at e; cases e
  · rw [Nat.testBit_lt_two_pow (Nat.lt_of_lt_of_le h1 (Nat.pow_le_pow_right (by omega) (by omega))), Nat.testBit_lt_two_pow (Nat.lt_of_lt_of_le h2 (Nat.pow_le_pow_right (by omega) (by omega)))]
theorem nodup_map_inj {α β : Type} {f : α → β} : ∀ {l : List α}, l.Nodup → (∀ x ∈ l, ∀ y ∈ l, f x = f y → x = y) → (l.map f).Nodup
  | [], _, _ => by simp
  | a :: l, h, hi => by
    have h' := List.nodup_cons.1 h
    rw [List.map_cons, List.nodup_cons]
    refine ⟨fun hm => ?_, nodup_map_inj h'.2 fun x hx y hy => hi x (by simp [hx]) y (by simp [hy])⟩
    obtain ⟨x, hx, e⟩ := List.mem_map.1 hm
    have := hi x (by simp [hx]) a (by simp) e
    exact h'.1 (this ▸ hx)
theorem bitsTo_nodup (G : List Int → Bool) (n : Nat) : (bitsTo G n (2 ^ n)).Nodup := by
  unfold bitsTo
  refine List.Nodup.sublist List.filter_sublist (nodup_map_inj List.nodup_range fun x hx y hy e => ?_)
  exact subN_inj (List.mem_range.1 hx) (List.mem_range.1 hy) e
theorem mem_bits {G : List Int → Bool} {n : Nat} {T : List Int} : T ∈ bitsTo G n (2 ^ n) ↔ Ixs n T ∧ minB G T = true := by
  unfold bitsTo
  rw [List.mem_filter, List.mem_map]
  constructor
  · rintro ⟨⟨b, _, rfl⟩, h⟩
    exact ⟨ixs_subN n b, h⟩
  · rintro ⟨h, h2⟩
    obtain ⟨h3, h4⟩ := subN_numOf h
    exact ⟨⟨numOf T, List.mem_range.2 h3, h4⟩, h2⟩
theorem listInt_irrefl (a : List Int) : ¬ a < a := List.lt_irrefl a
theorem listInt_asymm {a b : List Int} (h : a < b) : ¬ b < a := List.lt_asymm h
theorem listInt_total {a b : List Int} (h1 : ¬ a < b) (h2 : ¬ b < a) : a = b := by
  have h1' : b ≤ a := h1
  have h2' : a ≤ b := h2
  exact List.le_antisymm h2' h1'
/-- What a sort makes of them. -/
theorem bits_sorted {G : List Int → Bool} {n : Nat} (hG : Mono n G) {l : List (List Int)} (hp : l.Perm (bitsTo G n (2 ^ n))) (hs : l.Pairwise fun a b => ¬ b < a) : l = minZ G n [] := by
  have hn : l.Nodup := (hp.nodup_iff).2 (bitsTo_nodup G n)
  have hlt : l.Pairwise (· < ·) := by
    refine (hs.and hn).imp fun {a b} h => ?_
    by_cases hab : a < b
    · exact hab
    · exact absurd (listInt_total hab h.1) h.2
  refine sorted_unique listInt_irrefl (fun a b => listInt_asymm) hlt (minZ_sorted hG (ixs_nil n)) fun T => ?_
  rw [hp.mem_iff, mem_bits, mem_minZ hG (ixs_nil n)]
  exact ⟨fun h => ⟨h.1, List.nil_prefix, h.2⟩, fun h => ⟨h.1, h.2.2⟩⟩
/-- A set without one of its indices. -/
theorem mem_erase_ix {n : Nat} {S : List Int} (h : Ixs n S) {k : Nat} (hk : k < S.length) (x : Int) : x ∈ S.eraseIdx k ↔ x ∈ S ∧ x ≠ S[k] := by
  rw [List.mem_eraseIdx_iff_getElem]
  constructor
  · rintro ⟨i, hi, hne, rfl⟩
    refine ⟨List.getElem_mem hi, fun e => hne ?_⟩
    exact (List.getElem_inj h.nodup).1 e
  · rintro ⟨hx, hne⟩
    obtain ⟨i, hi, rfl⟩ := List.mem_iff_getElem.1 hx
    exact ⟨i, hi, fun e => hne (by subst e; rfl), rfl⟩
/-- A number without a bit. -/
def dropBit (b i : Nat) : Nat := b - (if b.testBit i then 2 ^ i else 0)
theorem ixs_erase {n : Nat} {S : List Int} (h : Ixs n S) (k : Nat) : Ixs n (S.eraseIdx k) := h.sub (List.eraseIdx_sublist S k)
theorem erase_subN {n b b' : Nat} {k : Nat} (hk : k < (subN n b).length) (hb : ∀ i : Nat, i < n → (b'.testBit i = true ↔ b.testBit i = true ∧ (i : Int) ≠ (subN n b)[k])) : (subN n b).eraseIdx k = subN n b' := by
  refine ixs_ext (ixs_erase (ixs_subN n b) k) (ixs_subN n b') fun x => ?_
  rw [mem_erase_ix (ixs_subN n b) hk, mem_subN, mem_subN]
  constructor
  · rintro ⟨⟨i, rfl, hi, h1⟩, hne⟩
    exact ⟨i, rfl, hi, (hb i hi).2 ⟨h1, hne⟩⟩
  · rintro ⟨i, rfl, hi, h1⟩
    obtain ⟨h2, h3⟩ := (hb i hi).1 h1
    exact ⟨⟨i, rfl, hi, h2⟩, h3⟩
/-- Whether a set with one index less is good. -/
def lessB (G : List Int → Bool) (S : List Int) : Bool := (List.range S.length).any fun i => G (S.eraseIdx i)
theorem minB_small (G : List Int → Bool) (S : List Int) : minB G S = (G S && !lessB G S) := by
  unfold minB lessB
  congr 1
  rw [List.not_any_eq_all_not]
theorem good_of_small {G : List Int → Bool} {n : Nat} (hG : Mono n G) {S : List Int} (hS : Ixs n S) (h : lessB G S = true) : G S = true := by
  obtain ⟨i, hi, hg⟩ := List.any_eq_true.1 h
  exact hG _ _ hS (List.eraseIdx_sublist S i) hg
/-- The least sets meet every set that all good sets meet. -/
theorem least_in {G : List Int → Bool} {n : Nat} (hG : Mono n G) {S : List Int} (hS : Ixs n S) (h : G S = true) : ∃ T ∈ minZ G n [], T.Sublist S := by
  obtain ⟨T, hT, hm⟩ := exists_min S.length S (Nat.le_refl _) h
  exact ⟨T, (mem_minZ hG (ixs_nil n) T).2 ⟨hS.sub hT, List.nil_prefix, hm⟩, hT⟩
end Go.Proofs.YtcpddgkloeklaaaGreatDoor
