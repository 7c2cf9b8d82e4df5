import Derived.Lib.SlTrimSet
import Derived.Lib.Split
import Derived.Lib.SplitLaws
/- Words, phrases and what lies between separators: plain facts on bytes. -/
set_option linter.unusedSimpArgs false
set_option linter.unusedVariables false
namespace Go.Proofs.YtokbolgaokbdcaaDoor
/-- A letter a to z. -/
def letterB (b : UInt8) : Bool := decide (97 ≤ b.toNat) && decide (b.toNat ≤ 122)
def letters : List UInt8 := [97, 98, 99, 100, 101, 102, 103, 104, 105, 106, 107, 108, 109, 110, 111, 112, 113, 114, 115, 116, 117, 118, 119, 120, 121, 122]
theorem letters_contains (b : UInt8) : letters.contains b = letterB b := by
  have h : ∀ n, n < 256 → letters.contains (UInt8.ofNat n) = letterB (UInt8.ofNat n) := by decide +kernel
  have e : UInt8.ofNat b.toNat = b := by simp
  rw [← e]
  exact h _ (by have := b.toNat_lt; omega)
/-- A word: 1 to 16 letters. -/
def wordL (l : List UInt8) : Bool := decide (1 ≤ l.length) && decide (l.length ≤ 16) && l.all letterB
def wordB (s : ByteArray) : Bool := wordL s.data.toList
theorem dropWhile_all {p : UInt8 → Bool} : ∀ {l : List UInt8}, (∀ x ∈ l.dropWhile p, p x = true) → l.dropWhile p = []
  | [], _ => rfl
  | a :: l, h => by
    cases ha : p a
    · rw [List.dropWhile_cons, ha] at h
      have := h a (by simp)
      rw [ha] at this
      cases this
    · rw [List.dropWhile_cons, ha] at h ⊢
      simp only [if_true] at h ⊢
      exact dropWhile_all h
theorem dropWhile_nil_all {p : UInt8 → Bool} : ∀ {l : List UInt8}, l.dropWhile p = [] ↔ ∀ x ∈ l, p x = true
  | [] => by simp
  | a :: l => by
    cases ha : p a
    · simp [List.dropWhile_cons, ha]
    · simp only [List.dropWhile_cons, ha, if_true, dropWhile_nil_all (l := l)]
      simp [ha]
theorem trimS_nil (l cs : List UInt8) : Lib.trimS l cs = [] ↔ ∀ x ∈ l, cs.contains x = true := by
  unfold Lib.trimS Lib.trimLeftS Lib.trimRightS
  constructor
  · intro h
    rw [dropWhile_nil_all] at h
    have h2 : l.reverse.dropWhile (cs.contains ·) = [] := dropWhile_all fun x hx => h x (by simpa using hx)
    rw [dropWhile_nil_all] at h2
    exact fun x hx => h2 x (by simpa using hx)
  · intro h
    have h2 : l.reverse.dropWhile (cs.contains ·) = [] := dropWhile_nil_all.2 fun x hx => h x (by simpa using hx)
    rw [h2]
    rfl
theorem trim_letters (l : List UInt8) : (Lib.trimS l letters).isEmpty = l.all letterB := by
  rw [Bool.eq_iff_iff, List.isEmpty_iff, trimS_nil, List.all_eq_true]
  constructor
  · intro h x hx
    rw [← letters_contains]; exact h x hx
  · intro h x hx
    rw [letters_contains]; exact h x hx
/-! ### Cut at every occurrence of a byte -/
def splitL (c : UInt8) : List UInt8 → List (List UInt8)
  | [] => [[]]
  | b :: l => if b == c then [] :: splitL c l else match splitL c l with
    | [] => [[b]]
    | x :: r => (b :: x) :: r
theorem splitL_ne (c : UInt8) : ∀ l, splitL c l ≠ []
  | [] => by simp [splitL]
  | b :: l => by
    unfold splitL
    split
    · simp
    · split <;> simp
theorem splitL_miss {c : UInt8} : ∀ {l : List UInt8}, c ∉ l → splitL c l = [l]
  | [], _ => rfl
  | b :: l, h => by
    have hb : (b == c) = false := by rw [beq_eq_false_iff_ne]; rintro rfl; exact h (by simp)
    have ih := splitL_miss (c := c) (l := l) (fun hc => h (by simp [hc]))
    simp [splitL, hb, ih]
theorem splitL_hit {c : UInt8} : ∀ {x r : List UInt8}, c ∉ x → splitL c (x ++ c :: r) = x :: splitL c r
  | [], r, _ => by simp [splitL]
  | b :: x, r, h => by
    have hb : (b == c) = false := by rw [beq_eq_false_iff_ne]; rintro rfl; exact h (by simp)
    have ih := splitL_hit (c := c) (x := x) (r := r) (fun hc => h (by simp [hc]))
    simp [splitL, hb, ih]
theorem index_one (c : UInt8) : ∀ l : List UInt8, (Lib.index l [c] = -1 ∧ c ∉ l) ∨ ∃ i : Nat, Lib.index l [c] = i ∧ ∃ r, l = l.take i ++ c :: r ∧ r = l.drop (i + 1) ∧ c ∉ l.take i
  | [] => .inl ⟨by simp [Lib.index], by simp⟩
  | b :: l => by
    by_cases hb : c = b
    · subst hb
      refine .inr ⟨0, by simp [Lib.index, List.isPrefixOf], l, by simp, by simp, by simp⟩
    · have hp : ([c] : List UInt8).isPrefixOf (b :: l) = false := by simp [List.isPrefixOf, hb]
      rcases index_one c l with ⟨h1, h2⟩ | ⟨i, h1, r, h2, h3, h4⟩
      · refine .inl ⟨?_, ?_⟩
        · unfold Lib.index
          rw [hp, h1]
          simp
        · simp [hb, h2]
      · refine .inr ⟨i + 1, ?_, r, ?_, ?_, ?_⟩
        · unfold Lib.index
          rw [hp, h1]
          have : ((i : Int) == -1) = false := by rw [beq_eq_false_iff_ne]; omega
          simp [this]
        · rw [List.take_succ_cons, List.cons_append, ← h2]
        · simpa using h3
        · rw [List.take_succ_cons]
          simp [hb, h4]
theorem splitK_one (c : UInt8) : ∀ (k : Nat) (l : List UInt8), Lib.count l [c] = k → Lib.splitK [c] 0 k l = splitL c l
  | 0, l, h => by
    rcases index_one c l with ⟨h1, h2⟩ | ⟨i, h1, r, h2, h3, h4⟩
    · rw [splitL_miss h2]; rfl
    · have := Lib.count_hit (s := l) (sub := [c]) (i := i) (by simp) h1
      omega
  | k + 1, l, h => by
    rcases index_one c l with ⟨h1, h2⟩ | ⟨i, h1, r, h2, h3, h4⟩
    · have := Lib.count_miss (s := l) (sub := [c]) h1
      omega
    · have hc := Lib.count_hit (s := l) (sub := [c]) (i := i) (by simp) h1
      have e : Lib.splitK [c] 0 (k + 1) l = l.take i :: Lib.splitK [c] 0 k (l.drop (i + 1)) := by
        rw [Lib.splitK]
        have hm : (Lib.index l [c] == -1) = false := by rw [h1, beq_eq_false_iff_ne]; omega
        rw [hm, h1]
        simp
      have hck : Lib.count (l.drop (i + 1)) [c] = k := by simp only [List.length_cons, List.length_nil, Nat.zero_add] at hc; omega
      rw [e, splitK_one c k _ hck]
      conv => rhs; rw [h2]
      rw [splitL_hit h4, h3]
/-- A phrase: 1 to 8 words, a blank between them. -/
def phraseL (l : List UInt8) : Bool := decide ((splitL 32 l).length ≤ 8) && (splitL 32 l).all wordL
def phraseB (s : ByteArray) : Bool := phraseL s.data.toList
end Go.Proofs.YtokbolgaokbdcaaDoor
