import Derived.Test.YtemfhcmeeldngaaGreatDoorPackPa
import Derived.Test.YtemfhcmeeldngaaGreatDoorShelfC
import Derived.Test.YtemfhcmeeldngaaGreatDoorPackPb
import Derived.Sort.Walk0
import Derived.Maps.RangeWalk
import Derived.Maps.StringElems
import Derived.StringKeys
/- Several of my texts, one behind the other: Amb, Bet, MapS, Impr, Foll, AmbS, AmbO, Lead, FindS, AsL, Learn. -/
/- Which texts have two parsings: the plain law of the search by what one beginning is ahead of another. -/
set_option linter.unusedSimpArgs false
set_option linter.unusedVariables false
namespace Go.Proofs.YtemfhcmeeldngaaGreatDoor
/-! ### The order of texts: by length, then by the alphabet -/
abbrev Tx := List UInt8
def betL (a b : Tx) : Prop := a.length < b.length ∨ (a.length = b.length ∧ a < b)
instance (a b : Tx) : Decidable (betL a b) := inferInstanceAs (Decidable (_ ∨ _))
theorem lex_trich : ∀ (a b : Tx), a < b ∨ a = b ∨ b < a
  | [], [] => .inr (.inl rfl)
  | [], b :: bs => .inl (List.nil_lt_cons b bs)
  | a :: ls, [] => .inr (.inr (List.nil_lt_cons a ls))
  | a :: ls, b :: bs => by
    rw [List.cons_lt_cons_iff, List.cons_lt_cons_iff]
    rcases UInt8.lt_or_lt_of_ne (a := a) (b := b) |> (fun h => (Decidable.em (a = b)).imp id h) with h | h
    · subst h
      rcases lex_trich ls bs with h | h | h
      · exact .inl (.inr ⟨rfl, h⟩)
      · exact .inr (.inl (by rw [h]))
      · exact .inr (.inr (.inr ⟨rfl, h⟩))
    · rcases h with h | h
      · exact .inl (.inl h)
      · exact .inr (.inr (.inl h))
theorem lex_append : ∀ {a b : Tx} (m : Tx), a.length = b.length → a < b → a ++ m < b ++ m
  | [], [], m, _, h => absurd h (List.lt_irrefl _)
  | a :: ls, [], m, h, _ => by simp at h
  | [], b :: bs, m, h, _ => by simp at h
  | a :: ls, b :: bs, m, hl, h => by
    rw [List.cons_lt_cons_iff] at h
    rw [List.cons_append, List.cons_append, List.cons_lt_cons_iff]
    rcases h with h | ⟨h1, h2⟩
    · exact .inl h
    · exact .inr ⟨h1, lex_append m (by simpa using hl) h2⟩
theorem betL_irrefl (a : Tx) : ¬ betL a a := by
  rintro (h | ⟨_, h⟩)
  · omega
  · exact List.lt_irrefl _ h
theorem betL_trans {a b c : Tx} (h1 : betL a b) (h2 : betL b c) : betL a c := by
  rcases h1 with h1 | ⟨h1, h3⟩
  · rcases h2 with h2 | ⟨h2, h4⟩
    · exact .inl (by omega)
    · exact .inl (by omega)
  · rcases h2 with h2 | ⟨h2, h4⟩
    · exact .inl (by omega)
    · exact .inr ⟨by omega, List.lt_trans h3 h4⟩
theorem betL_total (a b : Tx) : betL a b ∨ a = b ∨ betL b a := by
  rcases Nat.lt_trichotomy a.length b.length with h | h | h
  · exact .inl (.inl h)
  · rcases lex_trich a b with h2 | h2 | h2
    · exact .inl (.inr ⟨h, h2⟩)
    · exact .inr (.inl h2)
    · exact .inr (.inr (.inr ⟨h.symm, h2⟩))
  · exact .inr (.inr (.inl h))
/-- 'a is at most b'. -/
theorem leL_trans {a b c : Tx} (h1 : ¬ betL b a) (h2 : ¬ betL c b) : ¬ betL c a := fun h => by
  rcases betL_total b a with h3 | h3 | h3
  · exact h1 h3
  · subst h3; exact h2 h
  · exact h2 (betL_trans h h3)
theorem leL_antisymm {a b : Tx} (h1 : ¬ betL b a) (h2 : ¬ betL a b) : a = b := by
  rcases betL_total a b with h | h | h
  · exact absurd h h2
  · exact h
  · exact absurd h h1
theorem betL_append {a b : Tx} (m : Tx) (h : betL a b) : betL (a ++ m) (b ++ m) := by
  rcases h with h | ⟨h1, h2⟩
  · exact .inl (by simp; omega)
  · exact .inr ⟨by simp [h1], lex_append m h1 h2⟩
theorem leL_append {a b : Tx} (m : Tx) (h : ¬ betL b a) : ¬ betL (b ++ m) (a ++ m) := fun h2 => by
  rcases betL_total a b with h3 | h3 | h3
  · exact betL_irrefl _ (betL_trans h2 (betL_append m h3))
  · subst h3; exact betL_irrefl _ h2
  · exact h h3
/-! ### A number that grows with the order -/
def rk : Tx → Nat
  | [] => 0
  | x :: l => (x.toNat + 1) * 257 ^ l.length + rk l
theorem rk_lt : ∀ l : Tx, rk l < 257 ^ l.length
  | [] => by simp [rk]
  | x :: l => by
    have ih := rk_lt l
    have hx := x.toNat_lt
    simp only [rk, List.length_cons, Nat.pow_succ]
    have : (x.toNat + 1) * 257 ^ l.length ≤ 256 * 257 ^ l.length := Nat.mul_le_mul_right _ (by omega)
    omega
theorem rk_lex : ∀ {a b : Tx}, a.length = b.length → a < b → rk a < rk b
  | [], [], _, h => absurd h (List.lt_irrefl _)
  | a :: ls, [], h, _ => by simp at h
  | [], b :: bs, h, _ => by simp at h
  | a :: ls, b :: bs, hl, h => by
    rw [List.cons_lt_cons_iff] at h
    have hl' : ls.length = bs.length := by simpa using hl
    simp only [rk, hl']
    rcases h with h | ⟨h1, h2⟩
    · have h3 : a.toNat + 1 ≤ b.toNat := UInt8.lt_iff_toNat_lt.1 h
      have h4 := rk_lt ls
      rw [hl'] at h4
      have : (a.toNat + 1 + 1) * 257 ^ bs.length ≤ (b.toNat + 1) * 257 ^ bs.length := Nat.mul_le_mul_right _ (by omega)
      rw [Nat.add_mul (a.toNat + 1)] at this
      omega
    · subst h1
      have := rk_lex hl' h2
      omega
theorem rk_ge : ∀ {l : Tx} {n : Nat}, n < l.length → 257 ^ n ≤ rk l
  | [], n, h => by simp at h
  | x :: l, n, h => by
    have h2 : n ≤ l.length := by simp at h; omega
    have h3 : 257 ^ n ≤ 257 ^ l.length := Nat.pow_le_pow_right (by omega) h2
    have h4 : 1 * 257 ^ l.length ≤ (x.toNat + 1) * 257 ^ l.length := Nat.mul_le_mul_right _ (by omega)
    simp only [rk]
    omega
theorem rk_bet {a b : Tx} (h : betL a b) : rk a < rk b := by
  rcases h with h | ⟨h1, h2⟩
  · exact Nat.lt_of_lt_of_le (rk_lt a) (rk_ge h)
  · exact rk_lex h1 h2
/-! ### What can be derived -/
/-- The text `t` is what one parsing makes, `v` what it is ahead of another one that begins with another rule. -/
inductive Der (rs : List Tx) : Tx → Tx → Prop
  | init {i k : Nat} {a b u : Tx} (hi : rs[i]? = some a) (hk : rs[k]? = some b) (hne : i ≠ k) (e : b = a ++ u) : Der rs b u
  | ext {t v r u : Tx} (h : Der rs t v) (hv : v ≠ []) (hr : r ∈ rs) (e : r = v ++ u) : Der rs (t ++ u) u
  | sub {t v r u : Tx} (h : Der rs t v) (hv : v ≠ []) (hr : r ∈ rs) (e : v = r ++ u) : Der rs t u
/-- What is known is derivable. -/
def SoundF (rs : List Tx) (f : Tx → Option Tx) : Prop := ∀ u t, f u = some t → Der rs t u
/-- Something at least ls good is known. -/
def KnowsF (f : Tx → Option Tx) (t u : Tx) : Prop := ∃ t', f u = some t' ∧ ¬ betL t t'
/-- All beginnings are known, and what follows from what is known. -/
structure ClosedF (rs : List Tx) (f : Tx → Option Tx) : Prop where
  init : ∀ (i k : Nat) (a u : Tx), rs[i]? = some a → rs[k]? = some (a ++ u) → i ≠ k → KnowsF f (a ++ u) u
  ext : ∀ (t v u : Tx), f v = some t → v ≠ [] → v ++ u ∈ rs → KnowsF f (t ++ u) u
  sub : ∀ (t r u : Tx), f (r ++ u) = some t → r ++ u ≠ [] → r ∈ rs → KnowsF f t u
theorem ClosedF.knows {rs : List Tx} {f : Tx → Option Tx} (h : ClosedF rs f) {t u : Tx} (d : Der rs t u) : KnowsF f t u := by
  induction d with
  | init hi hk hne e => subst e; exact h.init _ _ _ _ hi hk hne
  | @ext t v r u d hv hr e ih =>
    obtain ⟨t1, h1, h2⟩ := ih
    subst e
    obtain ⟨t2, h3, h4⟩ := h.ext t1 v u h1 hv hr
    exact ⟨t2, h3, leL_trans h4 (leL_append u h2)⟩
  | @sub t v r u d hv hr e ih =>
    obtain ⟨t1, h1, h2⟩ := ih
    subst e
    obtain ⟨t2, h3, h4⟩ := h.sub t1 r u h1 hv hr
    exact ⟨t2, h3, leL_trans h4 h2⟩
/-- What is known in the end is one and the same. -/
theorem final_same {rs : List Tx} {f g : Tx → Option Tx} (sf : SoundF rs f) (cf : ClosedF rs f) (sg : SoundF rs g) (cg : ClosedF rs g) (u : Tx) : f u = g u := by
  cases hf : f u with
  | none =>
    cases hg : g u with
    | none => rfl
    | some t =>
      obtain ⟨t', h1, _⟩ := cf.knows (sg u t hg)
      rw [hf] at h1; cases h1
  | some t =>
    obtain ⟨t1, h1, h2⟩ := cg.knows (sf u t hf)
    obtain ⟨t2, h3, h4⟩ := cf.knows (sg u t1 h1)
    rw [hf] at h3
    cases h3
    rw [h1, leL_antisymm h4 h2]
/-! ### Learning -/
def updF (f : Tx → Option Tx) (u t : Tx) : Tx → Option Tx := fun v => if v = u then some t else f v
/-- Whether `t` is new or better for `u`. -/
def newF (f : Tx → Option Tx) (u t : Tx) : Bool := match f u with
  | some own => decide (betL t own)
  | none => true
def learnF (f : Tx → Option Tx) (u t : Tx) : Tx → Option Tx := if newF f u t then updF f u t else f
theorem SoundF.learn {rs : List Tx} {f : Tx → Option Tx} (h : SoundF rs f) {u t : Tx} (d : Der rs t u) : SoundF rs (learnF f u t) := by
  unfold learnF
  split
  · intro v s hs
    unfold updF at hs
    split at hs
    · rename_i e
      cases hs
      rw [e]; exact d
    · exact h v s hs
  · exact h
theorem knows_learn {f : Tx → Option Tx} {u t : Tx} : KnowsF (learnF f u t) t u := by
  unfold learnF
  split
  · exact ⟨t, by simp [updF], betL_irrefl _⟩
  · rename_i h
    unfold newF at h
    split at h
    · rename_i own ho
      exact ⟨own, ho, by simpa using h⟩
    · simp at h
theorem KnowsF.learn {f : Tx → Option Tx} {u t u' t' : Tx} (h : KnowsF f t' u') : KnowsF (learnF f u t) t' u' := by
  obtain ⟨s, h1, h2⟩ := h
  unfold learnF
  split
  · rename_i hn
    by_cases e : u' = u
    · subst e
      refine ⟨t, by simp [updF], ?_⟩
      unfold newF at hn
      rw [h1] at hn
      have hn : betL t s := by simpa using hn
      exact fun h3 => h2 (betL_trans h3 hn)
    · exact ⟨s, by simp [updF, e, h1], h2⟩
  · exact ⟨s, h1, h2⟩
theorem learnF_no {f : Tx → Option Tx} {u t : Tx} (h : newF f u t = false) : learnF f u t = f := by simp [learnF, h]
theorem learnF_yes {f : Tx → Option Tx} {u t : Tx} (h : newF f u t = true) : learnF f u t = updF f u t := by simp [learnF, h]
theorem knows_no {f : Tx → Option Tx} {u t : Tx} (h : newF f u t = false) : KnowsF f t u := by
  have := knows_learn (f := f) (u := u) (t := t)
  rwa [learnF_no h] at this
/-! ### The rests that there can be, and how far there is still to go -/
/-- All ends of all texts of rules. -/
def ends (rs : List Tx) : List Tx := rs.flatMap fun r => (List.range (r.length + 1)).map fun j => r.drop j
theorem mem_ends {rs : List Tx} {r u w : Tx} (hr : r ∈ rs) (e : r = w ++ u) : u ∈ ends rs := by
  unfold ends
  rw [List.mem_flatMap]
  exact ⟨r, hr, List.mem_map.2 ⟨w.length, List.mem_range.2 (by rw [e]; simp; omega), by rw [e, List.drop_left]⟩⟩
theorem ends_end {rs : List Tx} {v u w : Tx} (h : v ∈ ends rs) (e : v = w ++ u) : u ∈ ends rs := by
  unfold ends at h
  rw [List.mem_flatMap] at h
  obtain ⟨r, hr, h⟩ := h
  obtain ⟨j, _, rfl⟩ := List.mem_map.1 h
  exact mem_ends (w := r.take j ++ w) hr (by rw [List.append_assoc, ← e, List.take_append_drop])
theorem der_ends {rs : List Tx} {t v : Tx} (d : Der rs t v) : v ∈ ends rs := by
  induction d with
  | init hi hk hne e => exact mem_ends (List.mem_of_getElem? hk) e
  | ext d hv hr e ih => exact mem_ends hr e
  | sub d hv hr e ih => exact ends_end ih e
theorem ends_len {rs : List Tx} {M : Nat} (h : ∀ r ∈ rs, r.length ≤ M) : (ends rs).length ≤ rs.length * (M + 1) := by
  unfold ends
  induction rs with
  | nil => simp
  | cons r rs ih =>
    have h1 := h r (by simp)
    have h2 := ih fun x hx => h x (by simp [hx])
    rw [List.flatMap_cons, List.length_append, List.length_map, List.length_range, List.length_cons, Nat.succ_mul]
    omega
theorem ends_el {rs : List Tx} {M : Nat} (h : ∀ r ∈ rs, r.length ≤ M) : ∀ u ∈ ends rs, u.length ≤ M := fun u hu => by
  unfold ends at hu
  rw [List.mem_flatMap] at hu
  obtain ⟨r, hr, h2⟩ := hu
  obtain ⟨j, _, rfl⟩ := List.mem_map.1 h2
  have := h r hr
  rw [List.length_drop]; omega
/-- How many of the rests are known. -/
def cntF (E : List Tx) (f : Tx → Option Tx) : Nat := E.countP fun u => (f u).isSome
theorem cntF_le (E : List Tx) (f : Tx → Option Tx) : cntF E f ≤ E.length := List.countP_le_length
theorem cntF_upd {E : List Tx} {f : Tx → Option Tx} {u t : Tx} : cntF E f ≤ cntF E (updF f u t) := by
  unfold cntF
  refine List.countP_mono_left fun v _ hv => ?_
  unfold updF
  split
  · rfl
  · exact hv
theorem cntF_new {E : List Tx} {f : Tx → Option Tx} {u t : Tx} (hu : u ∈ E) (hn : f u = none) : cntF E f + 1 ≤ cntF E (updF f u t) := by
  unfold cntF
  induction E with
  | nil => cases hu
  | cons e E ih =>
    rw [List.countP_cons, List.countP_cons]
    by_cases he : e = u
    · subst he
      have h1 : E.countP (fun u => (f u).isSome) ≤ E.countP (fun v => (updF f e t v).isSome) := cntF_upd (E := E)
      simp [hn, updF] at h1 ⊢
      omega
    · have h2 := ih (by rcases List.mem_cons.1 hu with h | h; exact absurd h.symm he; exact h)
      have h3 : (updF f u t e).isSome = (f e).isSome := by simp [updF, he]
      rw [h3]
      omega
/-- Texts are not longer than what is known allows. -/
def BoundF (E : List Tx) (f : Tx → Option Tx) : Prop := ∀ u t, f u = some t → t.length ≤ 4 * cntF E f
theorem BoundF.learn {E : List Tx} {f : Tx → Option Tx} {u t : Tx} (h : BoundF E f) (hu : u ∈ E) (ht : t.length ≤ 4 * cntF E f + 4) : BoundF E (learnF f u t) := by
  unfold learnF
  split
  · rename_i hn
    intro v s hs
    have hc := cntF_upd (E := E) (f := f) (u := u) (t := t)
    unfold updF at hs
    split at hs
    · cases hs
      cases ho : f u with
      | none =>
        have := cntF_new (t := t) hu ho
        omega
      | some own =>
        unfold newF at hn
        rw [ho] at hn
        have hb : betL t own := by simpa using hn
        have h1 := h u own ho
        have h2 : t.length ≤ own.length := by rcases hb with h | ⟨h, _⟩ <;> omega
        omega
    · have := h v s hs
      omega
  · exact h
/-- How far there is still to go at one rest. -/
def toGo (B : Nat) (f : Tx → Option Tx) (u : Tx) : Nat := match f u with
  | some t => rk t
  | none => 257 ^ B
def goF (E : List Tx) (B : Nat) (f : Tx → Option Tx) : Nat := (E.map (toGo B f)).sum
theorem goF_learn {E : List Tx} {B : Nat} {f : Tx → Option Tx} {u t : Tx} (hu : u ∈ E) (ht : t.length ≤ B) (hn : newF f u t = true) : goF E B (learnF f u t) < goF E B f := by
  rw [learnF_yes hn]
  have h1 : toGo B (updF f u t) u < toGo B f u := by
    unfold toGo updF
    rw [if_pos rfl]
    unfold newF at hn
    cases ho : f u with
    | none =>
      dsimp only
      have := rk_lt t
      have h2 : 257 ^ t.length ≤ 257 ^ B := Nat.pow_le_pow_right (by omega) ht
      omega
    | some own =>
      rw [ho] at hn
      exact rk_bet (by simpa using hn)
  have h2 : ∀ v, toGo B (updF f u t) v ≤ toGo B f v := fun v => by
    by_cases e : v = u
    · subst e; omega
    · unfold toGo updF
      rw [if_neg e]
      exact Nat.le_refl _
  unfold goF
  induction E with
  | nil => cases hu
  | cons e E ih =>
    simp only [List.map_cons, List.sum_cons]
    have h3 := h2 e
    rcases List.mem_cons.1 hu with rfl | h
    · have : (E.map (toGo B (updF f u t))).sum ≤ (E.map (toGo B f)).sum := by
        clear ih hu
        induction E with
        | nil => simp
        | cons x E ih =>
          simp only [List.map_cons, List.sum_cons]
          have := h2 x
          omega
      omega
    · have := ih h
      omega
end Go.Proofs.YtemfhcmeeldngaaGreatDoor

/- Which of two texts is better, both sides. -/
set_option linter.unusedSimpArgs false
set_option linter.unusedVariables false
namespace Go.Proofs.YtemfhcmeeldngaaGreatDoor
open Go.RowKit
def kb (s : ByteArray) : Tx := s.data.toList
theorem length_kb (s : ByteArray) : (kb s).length = s.size := by unfold kb; rw [Array.length_toList]; rfl
theorem kb_inj {s t : ByteArray} (h : kb s = kb t) : s = t := ByteArray.ext (Array.ext' h)
theorem tl_kb (s : ByteArray) : s.toList = kb s := ByteArray.toList_eq s
/-- `s` is better than `t`. -/
def betB (s t : ByteArray) : Bool := decide (betL (kb s) (kb t))
theorem betB_len {s t : ByteArray} (h : s.size < t.size) : betB s t = true := by
  unfold betB; rw [decide_eq_true_eq]; exact .inl (by rw [length_kb, length_kb]; exact h)
theorem betB_gt {s t : ByteArray} (h : t.size < s.size) : betB s t = false := by
  unfold betB; rw [decide_eq_false_iff_not]
  rintro (h2 | ⟨h2, _⟩) <;> (rw [length_kb, length_kb] at h2; omega)
theorem betB_same {s t : ByteArray} (h : s.size = t.size) : betB s t = decide (kb s < kb t) := by
  have e : betL (kb s) (kb t) ↔ kb s < kb t := by
    unfold betL
    rw [length_kb, length_kb]
    constructor
    · rintro (h1 | ⟨_, h1⟩)
      · omega
      · exact h1
    · exact fun h1 => .inr ⟨h, h1⟩
  unfold betB
  exact decide_eq_decide.2 e
theorem compareBytes_lt : ∀ a b : Tx, (decide (Lib.compareBytes a b < 0) = decide (a < b)) ∧ -1 ≤ Lib.compareBytes a b ∧ Lib.compareBytes a b ≤ 1
  | [], [] => ⟨by simp [Lib.compareBytes], by simp [Lib.compareBytes], by simp [Lib.compareBytes]⟩
  | [], b :: bs => ⟨by simp [Lib.compareBytes], by simp [Lib.compareBytes], by simp [Lib.compareBytes]⟩
  | a :: ls, [] => ⟨by simp [Lib.compareBytes], by simp [Lib.compareBytes], by simp [Lib.compareBytes]⟩
  | a :: ls, b :: bs => by
    obtain ⟨h1, h2, h3⟩ := compareBytes_lt ls bs
    unfold Lib.compareBytes
    by_cases c1 : a < b
    · rw [if_pos c1]
      refine ⟨?_, by omega, by omega⟩
      have : a :: ls < b :: bs := List.cons_lt_cons_iff.2 (.inl c1)
      simp [this]
    · rw [if_neg c1]
      by_cases c2 : b < a
      · rw [if_pos c2]
        refine ⟨?_, by omega, by omega⟩
        have : ¬ a :: ls < b :: bs := by
          rw [List.cons_lt_cons_iff]
          rintro (h | ⟨h, _⟩)
          · exact c1 h
          · subst h; exact c1 c2
        simp [this]
      · rw [if_neg c2]
        have e : a = b := by
          have h4 := UInt8.not_lt.1 c1
          have h5 := UInt8.not_lt.1 c2
          exact UInt8.le_antisymm h5 h4
        subst e
        refine ⟨?_, h2, h3⟩
        rw [h1]
        simp [List.cons_lt_cons_iff]
theorem compare_any (s t : ByteArray) (w : World) : Calls Tryz.prog 106 #[.string s, .string t] w (Ret w (.int .i64 (Lib.compareBytes (kb s) (kb t)))) :=
  Calls.mono (show Calls Tryz.prog 106 #[.string s, .string t] w _ from Any.strings_Compare Tryz.lays106 s t w) fun e w' ⟨he, hw⟩ => .mk he (by rw [hw]; exact Below.refl _ _)
def cmpI (x y : Int) : Int := if x < y then -1 else if y < x then 1 else 0
theorem isNaN_any (x : Int) (w : World) : Calls Tryz.prog 111 #[.int .i64 x] w (Ret w (.bool false)) := by
  go_enter Tryz.func111, Tryz.ntmps111
  go_wp2_with fail
  go_ret
  exact .mk (by simp) (by (repeat (first | (with_reducible exact Below.refl _ _) | (with_reducible assumption) | (with_reducible refine Later.out _ ?_) | (with_reducible refine bel_alloc ?_ _) | (with_reducible refine bel_drew ?_) | (with_reducible refine bel_drewN ?_ _) | (with_reducible refine bel_set ?_ ?_ _) | (with_reducible refine After.out _ ?_ ?_) | (dsimp only; omega) | omega | (simp only [World.size_alloc, World.size_setCell, World.size_drew]; omega))))
set_option maxHeartbeats 1000000 in
theorem compareInt_any (x y : Int) (w : World) : Calls Tryz.prog 105 #[.int .i64 x, .int .i64 y] w (Ret w (.int .i64 (cmpI x y))) := by
  by_cases h1 : x < y
  · have X := Lib.hid (show cmpI x y = -1 by simp [cmpI, h1])
    go_enter Tryz.func105, Tryz.ntmps105
    go_wp2_with (first | (go_at_call 111; first | ((with_reducible refine (Calls.later (isNaN_any _ _)).mono ?_); rintro e w' ⟨rfl, xl, rfl⟩; have hsz := xl.bel.size; (try simp only [World.size_alloc, World.size_setCell, World.size_drew] at hsz); (try have hz0 : w.heap.size < xl.w.heap.size := (by omega)); (try have hz1 : w.heap.size + 1 < xl.w.heap.size := (by omega)); (try have hz2 : w.heap.size + 1 + 1 < xl.w.heap.size := (by omega))) | ((with_reducible refine (isNaN_any _ _).mono ?_); rintro e w' ⟨rfl, xl, rfl⟩; have hsz := xl.bel.size; (try simp only [World.size_alloc, World.size_setCell, World.size_drew] at hsz); (try have hz0 : w.heap.size < xl.w.heap.size := (by omega)); (try have hz1 : w.heap.size + 1 < xl.w.heap.size := (by omega)); (try have hz2 : w.heap.size + 1 + 1 < xl.w.heap.size := (by omega)))))
    go_ret
    exact .mk (by rw [X.out]; rfl) (by (repeat (first | (with_reducible exact Below.refl _ _) | (with_reducible assumption) | (with_reducible refine Later.out _ ?_) | (with_reducible refine bel_alloc ?_ _) | (with_reducible refine bel_drew ?_) | (with_reducible refine bel_drewN ?_ _) | (with_reducible refine bel_set ?_ ?_ _) | (with_reducible refine After.out _ ?_ ?_) | (dsimp only; omega) | omega | (simp only [World.size_alloc, World.size_setCell, World.size_drew]; omega))))
  · by_cases h2 : y < x
    · have X := Lib.hid (show cmpI x y = 1 by simp [cmpI, h1, h2])
      go_enter Tryz.func105, Tryz.ntmps105
      go_wp2_with (first | (go_at_call 111; first | ((with_reducible refine (Calls.later (isNaN_any _ _)).mono ?_); rintro e w' ⟨rfl, xl, rfl⟩; have hsz := xl.bel.size; (try simp only [World.size_alloc, World.size_setCell, World.size_drew] at hsz); (try have hz0 : w.heap.size < xl.w.heap.size := (by omega)); (try have hz1 : w.heap.size + 1 < xl.w.heap.size := (by omega)); (try have hz2 : w.heap.size + 1 + 1 < xl.w.heap.size := (by omega))) | ((with_reducible refine (isNaN_any _ _).mono ?_); rintro e w' ⟨rfl, xl, rfl⟩; have hsz := xl.bel.size; (try simp only [World.size_alloc, World.size_setCell, World.size_drew] at hsz); (try have hz0 : w.heap.size < xl.w.heap.size := (by omega)); (try have hz1 : w.heap.size + 1 < xl.w.heap.size := (by omega)); (try have hz2 : w.heap.size + 1 + 1 < xl.w.heap.size := (by omega)))))
      go_ret
      exact .mk (by rw [X.out]; rfl) (by (repeat (first | (with_reducible exact Below.refl _ _) | (with_reducible assumption) | (with_reducible refine Later.out _ ?_) | (with_reducible refine bel_alloc ?_ _) | (with_reducible refine bel_drew ?_) | (with_reducible refine bel_drewN ?_ _) | (with_reducible refine bel_set ?_ ?_ _) | (with_reducible refine After.out _ ?_ ?_) | (dsimp only; omega) | omega | (simp only [World.size_alloc, World.size_setCell, World.size_drew]; omega))))
    · have X := Lib.hid (show cmpI x y = 0 by simp [cmpI, h1, h2])
      go_enter Tryz.func105, Tryz.ntmps105
      go_wp2_with (first | (go_at_call 111; first | ((with_reducible refine (Calls.later (isNaN_any _ _)).mono ?_); rintro e w' ⟨rfl, xl, rfl⟩; have hsz := xl.bel.size; (try simp only [World.size_alloc, World.size_setCell, World.size_drew] at hsz); (try have hz0 : w.heap.size < xl.w.heap.size := (by omega)); (try have hz1 : w.heap.size + 1 < xl.w.heap.size := (by omega)); (try have hz2 : w.heap.size + 1 + 1 < xl.w.heap.size := (by omega))) | ((with_reducible refine (isNaN_any _ _).mono ?_); rintro e w' ⟨rfl, xl, rfl⟩; have hsz := xl.bel.size; (try simp only [World.size_alloc, World.size_setCell, World.size_drew] at hsz); (try have hz0 : w.heap.size < xl.w.heap.size := (by omega)); (try have hz1 : w.heap.size + 1 < xl.w.heap.size := (by omega)); (try have hz2 : w.heap.size + 1 + 1 < xl.w.heap.size := (by omega)))))
      go_ret
      exact .mk (by rw [X.out]; rfl) (by (repeat (first | (with_reducible exact Below.refl _ _) | (with_reducible assumption) | (with_reducible refine Later.out _ ?_) | (with_reducible refine bel_alloc ?_ _) | (with_reducible refine bel_drew ?_) | (with_reducible refine bel_drewN ?_ _) | (with_reducible refine bel_set ?_ ?_ _) | (with_reducible refine After.out _ ?_ ?_) | (dsimp only; omega) | omega | (simp only [World.size_alloc, World.size_setCell, World.size_drew]; omega))))
set_option maxHeartbeats 1000000 in
theorem orInt_any (x y : Int) (a : Option Addr) (c : Nat) (w : World) (hr : Row w a [.int .i64 x, .int .i64 y]) : Calls Tryz.prog 104 #[.slice a 2 c] w (Ret w (.int .i64 (if x = 0 then y else x))) := by
  obtain ⟨b, o, rfl, h0⟩ := hr 0 _ rfl
  obtain ⟨b', o', he, h1⟩ := hr 1 _ rfl
  cases he
  rw [Nat.add_zero] at h0
  have hb := World.block_lt_of_cell? w _ h0
  obtain ⟨r, hR⟩ : ∃ r, (if x = 0 then y else x) = r := ⟨_, rfl⟩
  rw [hR]
  replace hR := Lib.hid hR
  clear hr
  go_enter Tryz.func104, Tryz.ntmps104
  go_wp2_with fail
  go_loopw [8] (fun i wr => ∃ k : Nat, k ≤ 2 ∧ i = .int .i64 k ∧ (0 < k → x = 0) ∧ (1 < k → y = 0) ∧ ∃ z : Later w, wr = z.w) (fun i _ => 2 - (intOf i).toNat)
  case atStart => exact ⟨0, by omega, rfl, by omega, by omega, LaterC.mk (by (repeat (first | (with_reducible exact Below.refl _ _) | (with_reducible assumption) | (with_reducible refine Later.out _ ?_) | (with_reducible refine bel_alloc ?_ _) | (with_reducible refine bel_drew ?_) | (with_reducible refine bel_drewN ?_ _) | (with_reducible refine bel_set ?_ ?_ _) | (with_reducible refine After.out _ ?_ ?_) | (dsimp only; omega) | omega | (simp only [World.size_alloc, World.size_setCell, World.size_drew]; omega))))⟩
  case round =>
    obtain ⟨k, hk, rfl, hx, hy, z, rfl⟩ := hrel
    have hzz := z.bel.size
    rcases (show k = 0 ∨ k = 1 ∨ k = 2 by omega) with rfl | rfl | rfl
    · by_cases h : x = 0
      · subst h
        clear hx hy
        go_wp2_with fail
        go_roundw
        case rel => exact ⟨1, by omega, by go_num, by simp, by omega, LaterC.mk (by (repeat (first | (with_reducible exact Below.refl _ _) | (with_reducible assumption) | (with_reducible refine Later.out _ ?_) | (with_reducible refine bel_alloc ?_ _) | (with_reducible refine bel_drew ?_) | (with_reducible refine bel_drewN ?_ _) | (with_reducible refine bel_set ?_ ?_ _) | (with_reducible refine After.out _ ?_ ?_) | (dsimp only; omega) | omega | (simp only [World.size_alloc, World.size_setCell, World.size_drew]; omega))))⟩
        case measure => first | (simp [intOf]; done) | (simp [intOf]; omega) | omega
      · have h' : (x != 0) = true := by simpa using h
        have X := Lib.hid (show r = x by rw [← hR.out, if_neg h])
        clear hx hy
        go_wp2_with fail
        go_ret
        exact .mk (by rw [X.out]; rfl) (by (repeat (first | (with_reducible exact Below.refl _ _) | (with_reducible assumption) | (with_reducible refine Later.out _ ?_) | (with_reducible refine bel_alloc ?_ _) | (with_reducible refine bel_drew ?_) | (with_reducible refine bel_drewN ?_ _) | (with_reducible refine bel_set ?_ ?_ _) | (with_reducible refine After.out _ ?_ ?_) | (dsimp only; omega) | omega | (simp only [World.size_alloc, World.size_setCell, World.size_drew]; omega))))
    · have x0 := hx (by omega)
      subst x0
      clear hx hy
      have X := Lib.hid (show r = y by rw [← hR.out, if_pos rfl])
      by_cases h : y = 0
      · subst h
        go_wp2_with fail
        go_roundw
        case rel => exact ⟨2, by omega, by go_num, by simp, by simp, LaterC.mk (by (repeat (first | (with_reducible exact Below.refl _ _) | (with_reducible assumption) | (with_reducible refine Later.out _ ?_) | (with_reducible refine bel_alloc ?_ _) | (with_reducible refine bel_drew ?_) | (with_reducible refine bel_drewN ?_ _) | (with_reducible refine bel_set ?_ ?_ _) | (with_reducible refine After.out _ ?_ ?_) | (dsimp only; omega) | omega | (simp only [World.size_alloc, World.size_setCell, World.size_drew]; omega))))⟩
        case measure => first | (simp [intOf]; done) | (simp [intOf]; omega) | omega
      · have h' : (y != 0) = true := by simpa using h
        go_wp2_with fail
        go_ret
        exact .mk (by rw [X.out]; rfl) (by (repeat (first | (with_reducible exact Below.refl _ _) | (with_reducible assumption) | (with_reducible refine Later.out _ ?_) | (with_reducible refine bel_alloc ?_ _) | (with_reducible refine bel_drew ?_) | (with_reducible refine bel_drewN ?_ _) | (with_reducible refine bel_set ?_ ?_ _) | (with_reducible refine After.out _ ?_ ?_) | (dsimp only; omega) | omega | (simp only [World.size_alloc, World.size_setCell, World.size_drew]; omega))))
    · have x0 := hx (by omega)
      have y0 := hy (by omega)
      subst x0 y0
      clear hx hy
      have X := Lib.hid (show r = 0 by rw [← hR.out, if_pos rfl])
      go_wp2_with fail
      go_ret
      exact .mk (by rw [X.out]; rfl) (by (repeat (first | (with_reducible exact Below.refl _ _) | (with_reducible assumption) | (with_reducible refine Later.out _ ?_) | (with_reducible refine bel_alloc ?_ _) | (with_reducible refine bel_drew ?_) | (with_reducible refine bel_drewN ?_ _) | (with_reducible refine bel_set ?_ ?_ _) | (with_reducible refine After.out _ ?_ ?_) | (dsimp only; omega) | omega | (simp only [World.size_alloc, World.size_setCell, World.size_drew]; omega))))
set_option maxHeartbeats 1000000 in
theorem isShorter_any (s t : ByteArray) (w : World) (hs : s.size ≤ 1048576) (ht : t.size ≤ 1048576) : Calls Tryz.prog 92 #[.string s, .string t] w (Ret w (.bool (betB s t))) := by
  have hc := compareBytes_lt (kb s) (kb t)
  have X := Lib.hid (show betB s t = decide ((if cmpI s.size t.size = 0 then Lib.compareBytes (kb s) (kb t) else cmpI s.size t.size) < 0) by
    rcases Nat.lt_trichotomy s.size t.size with h | h | h
    · rw [betB_len h]
      have : cmpI s.size t.size = -1 := by unfold cmpI; rw [if_pos (by omega)]
      simp [this]
    · rw [betB_same h, ← hc.1]
      have : cmpI s.size t.size = 0 := by unfold cmpI; rw [if_neg (by omega), if_neg (by omega)]
      simp [this]
    · rw [betB_gt h]
      have : cmpI s.size t.size = 1 := by unfold cmpI; rw [if_neg (by omega), if_pos (by omega)]
      simp [this])
  have D := fun w => compare_any s t w
  have C := fun w => compareInt_any s.size t.size w
  obtain ⟨x, hx⟩ : ∃ x, cmpI s.size t.size = x := ⟨_, rfl⟩
  obtain ⟨y, hy⟩ : ∃ y, Lib.compareBytes (kb s) (kb t) = y := ⟨_, rfl⟩
  simp only [hx] at C X
  simp only [hy] at D X
  replace C := Lib.hid C
  replace D := Lib.hid D
  clear hx hy hc
  have O := Lib.hid (fun a c w hr => orInt_any x y a c w hr)
  obtain ⟨r, hR⟩ : ∃ r, (if x = 0 then y else x) = r := ⟨_, rfl⟩
  simp only [hR] at O X
  clear hR
  go_enter Tryz.func92, Tryz.ntmps92
  go_wp2_with fail
  with_reducible refine (C.out _).mono ?_
  rintro e w' ⟨rfl, y1, rfl⟩
  have hsy1 := y1.bel.size
  (try simp only [World.size_alloc, World.size_setCell, World.size_drew] at hsy1)
  go_wp2_with fail
  with_reducible refine (D.out _).mono ?_
  rintro e w' ⟨rfl, y2, rfl⟩
  have hsy2 := y2.bel.size
  (try simp only [World.size_alloc, World.size_setCell, World.size_drew] at hsy2)
  go_wp2_with fail
  with_reducible refine (O.out _ _ _ (Row.made _ _ _)).mono ?_
  rintro e w' ⟨rfl, y3, rfl⟩
  have hsy3 := y3.bel.size
  (try simp only [World.size_alloc, World.size_setCell, World.size_drew] at hsy3)
  go_wp2_with fail
  go_ret
  exact .mk (by rw [X.out]; rfl) (by (repeat (first | (with_reducible exact Below.refl _ _) | (with_reducible assumption) | (with_reducible refine Later.out _ ?_) | (with_reducible refine bel_alloc ?_ _) | (with_reducible refine bel_drew ?_) | (with_reducible refine bel_drewN ?_ _) | (with_reducible refine bel_set ?_ ?_ _) | (with_reducible refine After.out _ ?_ ?_) | (dsimp only; omega) | omega | (simp only [World.size_alloc, World.size_setCell, World.size_drew]; omega))))
set_option maxHeartbeats 1000000 in
theorem sBetter_any (s t : ByteArray) (w : World) (hs : s.size ≤ 1048576) (ht : t.size ≤ 1048576) : Calls Tryz.prog 93 #[.string s, .string t] w (Ret w (.bool (betB s t))) := by
  rcases Nat.lt_trichotomy s.size t.size with h | h | h
  · have X := Lib.hid (betB_len h)
    have h1 : (s.size : Int) < (t.size : Int) := by omega
    go_enter Tryz.func93, Tryz.ntmps93
    go_wp2_with fail
    go_ret
    exact .mk (by rw [X.out]; rfl) (by (repeat (first | (with_reducible exact Below.refl _ _) | (with_reducible assumption) | (with_reducible refine Later.out _ ?_) | (with_reducible refine bel_alloc ?_ _) | (with_reducible refine bel_drew ?_) | (with_reducible refine bel_drewN ?_ _) | (with_reducible refine bel_set ?_ ?_ _) | (with_reducible refine After.out _ ?_ ?_) | (dsimp only; omega) | omega | (simp only [World.size_alloc, World.size_setCell, World.size_drew]; omega))))
  · have X := Lib.hid (show betB s t = Op.bytesLess s.toList t.toList by rw [betB_same h, bytesLess_eq, tl_kb, tl_kb])
    have h1 : ¬ (s.size : Int) < (t.size : Int) := by omega
    have h2 : ((s.size : Int) == (t.size : Int)) = true := by rw [beq_iff_eq]; omega
    have h3 : ((s.size : Int) = (t.size : Int)) = True := by simp [h]
    go_enter Tryz.func93, Tryz.ntmps93
    go_wp2_with fail
    go_ret
    exact .mk (by rw [X.out]; rfl) (by (repeat (first | (with_reducible exact Below.refl _ _) | (with_reducible assumption) | (with_reducible refine Later.out _ ?_) | (with_reducible refine bel_alloc ?_ _) | (with_reducible refine bel_drew ?_) | (with_reducible refine bel_drewN ?_ _) | (with_reducible refine bel_set ?_ ?_ _) | (with_reducible refine After.out _ ?_ ?_) | (dsimp only; omega) | omega | (simp only [World.size_alloc, World.size_setCell, World.size_drew]; omega))))
  · have X := Lib.hid (betB_gt h)
    have h1 : ¬ (s.size : Int) < (t.size : Int) := by omega
    have h2 : ((s.size : Int) == (t.size : Int)) = false := by rw [beq_eq_false_iff_ne]; omega
    have h3 : ((s.size : Int) = (t.size : Int)) = False := by simp; omega
    go_enter Tryz.func93, Tryz.ntmps93
    go_wp2_with fail
    go_ret
    exact .mk (by rw [X.out]; rfl) (by (repeat (first | (with_reducible exact Below.refl _ _) | (with_reducible assumption) | (with_reducible refine Later.out _ ?_) | (with_reducible refine bel_alloc ?_ _) | (with_reducible refine bel_drew ?_) | (with_reducible refine bel_drewN ?_ _) | (with_reducible refine bel_set ?_ ?_ _) | (with_reducible refine After.out _ ?_ ?_) | (dsimp only; omega) | omega | (simp only [World.size_alloc, World.size_setCell, World.size_drew]; omega))))
end Go.Proofs.YtemfhcmeeldngaaGreatDoor

/- A map from texts to texts that a call has made, as a function. -/
set_option linter.unusedSimpArgs false
set_option linter.unusedVariables false
namespace Go.Proofs.YtemfhcmeeldngaaGreatDoor
open Go.RowKit
abbrev strT : TypeId := 9
abbrev mapT : TypeId := 74
theorem keyedS : Go.Maps.Keyed Tryz.prog strT := Go.Maps.string_keyed Tryz.underlying9
theorem zeroS (w : World) : (zeroValue strT).run Tryz.prog w = .ok (.string ByteArray.empty) w := by kernel_rfl
theorem litS {s : ByteArray} (hs : s.size ≤ maxLen) : keyOf Tryz.prog strT (.string s) = some (.string (kb s)) := Go.WideMaps.keyOf_string_mk Tryz.underlying9 hs
abbrev DU := DataW Unit
/-- Block `B` is a map that holds what `f` says; the keys are among `E`. -/
def SMap (w : World) (B : Nat) (E : List Tx) (f : Tx → Option Tx) : Prop :=
  ∃ D : DU, w.ownsMap Tryz.prog strT (plainElem Tryz.prog strT) B E.length D ∧ Go.Maps.size D ≤ cntF E f ∧
    ∀ u, (∀ t, f u = some t → u ∈ E ∧ Go.Maps.has D (.string u) = true ∧ ∀ z, D.atKey (.string u) z = .lit (.string t)) ∧ (f u = none → Go.Maps.has D (.string u) = false)
theorem SMap.lt {w : World} {B : Nat} {E : List Tx} {f : Tx → Option Tx} (h : SMap w B E f) : B < w.heap.size := by
  obtain ⟨D, h1, _⟩ := h
  exact h1.lt
theorem SMap.keep {w w' : World} {B : Nat} {E : List Tx} {f : Tx → Option Tx} (h : SMap w B E f) (hb : w'.heap[B]? = w.heap[B]?) : SMap w' B E f := by
  obtain ⟨D, ⟨es, clock, h1, h2⟩, h3⟩ := h
  exact ⟨D, ⟨es, clock, hb.trans h1, h2⟩, h3⟩
theorem SMap.bel {w w' : World} {B : Nat} {E : List Tx} {f : Tx → Option Tx} (h : SMap w B E f) (hb : Below w.heap.size w w') : SMap w' B E f := h.keep (hb.block B h.lt)
theorem SMap.btw {w w' : World} {B lo hi : Nat} {E : List Tx} {f : Tx → Option Tx} (h : SMap w B E f) (hb : Between lo hi w w') (ho : B < lo ∨ hi ≤ B) : SMap w' B E f := h.keep (hb.block B h.lt ho)
theorem SMap.made (w : World) (E : List Tx) : SMap (w.alloc (.map #[] 0)) w.heap.size E fun _ => none :=
  ⟨.map [], (World.ownsMap_made w Tryz.prog strT (plainElem Tryz.prog strT)).mono (Nat.zero_le _), Nat.zero_le _, fun u => ⟨(fun t h => by cases h), fun _ => rfl⟩⟩
theorem ownsMap_shrink {w : World} {B n m : Nat} {D : DU} (h : w.ownsMap Tryz.prog strT (plainElem Tryz.prog strT) B n D) (hm : Go.Maps.size D ≤ m) : w.ownsMap Tryz.prog strT (plainElem Tryz.prog strT) B m D := by
  obtain ⟨es, clock, hb, F, hs, hD⟩ := h
  refine ⟨es, clock, hb, F, ?_, hD⟩
  have : Go.Maps.size D = es.size := by
    rw [hD]
    show (List.foldr DataW.insert [] _).length = _
    rw [length_sorted]
    simp
  omega
/-- What a look-up tells: the text, or none. -/
def lookV (o : Option Tx) : Value := .tuple #[.string (⟨(o.getD []).toArray⟩ : ByteArray), .bool o.isSome]
theorem mk_kb (c : ByteArray) : (⟨(kb c).toArray⟩ : ByteArray) = c := by unfold kb; cases c; simp
theorem SMap.lookup {w : World} {B : Nat} {E : List Tx} {f : Tx → Option Tx} (h : SMap w B E f) {s : ByteArray} (hs : s.size ≤ maxLen) :
    (Instr.lookup mapT (.map (some B)) (.string s) true).run Tryz.prog w = .ok (lookV (f (kb s))) w := by
  obtain ⟨D, hown, _, hf⟩ := h
  have hI := hown.isMap
  obtain ⟨es, clock, hb, F, _, rfl⟩ := hown
  obtain ⟨h1, h2⟩ := hf (kb s)
  rcases Go.Maps.fit_look true keyedS Tryz.underlying74 (zeroS w) hb F (litS hs) with ⟨hrun, _, hat⟩ | ⟨e0, y, _, _, hrun, hRv, hat, _⟩
  · rw [hrun]
    cases hfk : f (kb s) with
    | none =>
      unfold lookV
      rfl
    | some t =>
      obtain ⟨_, _, h4⟩ := h1 t hfk
      have e1 := hat .nil
      rw [h4] at e1
      cases e1
  · rw [hrun]
    obtain ⟨c, hc, hy, _⟩ := plainElem_string_inv Tryz.underlying9 hRv
    rw [hc]
    cases hfk : f (kb s) with
    | none =>
      have e1 := hat .nil
      rw [Go.Maps.atKey_of_not_has (h2 hfk), hy] at e1
      cases e1
    | some t =>
      obtain ⟨_, _, h4⟩ := h1 t hfk
      have e1 := hat .nil
      rw [h4, hy] at e1
      have e3 : (DataW.lit (.string t) : DU) = .lit (.string (kb c)) := e1
      have e2 : t = kb c := by
        rw [DataW.lit.injEq, Lit.string.injEq] at e3
        exact e3
      subst e2
      unfold lookV
      rw [Option.getD_some, mk_kb]
      rfl
theorem grown_btw {w w' : World} {B : Nat} (h : w.grownBy w' (some B)) : Between B (B + 1) w w' :=
  ⟨h.os, h.tape, h.output, h.size, fun k hk ho => h.block k hk (fun e => by cases e; omega)⟩
theorem SMap.update {w : World} {B : Nat} {E : List Tx} {f : Tx → Option Tx} (h : SMap w B E f) {s t : ByteArray} (hs : s.size ≤ maxLen) (ht : t.size ≤ maxLen) (hE : kb s ∈ E) (hl : E.length < maxLen) :
    ∃ w', (Instr.mapUpdate mapT (.map (some B)) (.string s) (.string t)).run Tryz.prog w = .ok () w' ∧ SMap w' B E (updF f (kb s) (kb t)) ∧ Between B (B + 1) w w' := by
  obtain ⟨D, hown, hsz, hf⟩ := h
  have hI := hown.isMap
  have hT := hown.tidy keyedS
  have hk : WideAt.IsKeyLit (.string (kb s)) := keyedS.key (litS hs)
  obtain ⟨w', hrun, hown', hg⟩ := hown.update (e := strT) keyedS Tryz.underlying74 hl (litS hs) (plainElem_string Tryz.underlying9 ht)
  have hsz' : Go.Maps.size (D.put (.string (kb s)) (.lit (.string (kb t)))) ≤ cntF E (updF f (kb s) (kb t)) := by
    rw [Go.Maps.size_put hT]
    cases hfk : f (kb s) with
    | none =>
      have := cntF_new (t := kb t) hE hfk
      rw [(hf (kb s)).2 hfk]
      simp only [Bool.false_eq_true, if_false]
      omega
    | some t0 =>
      have := cntF_upd (E := E) (f := f) (u := kb s) (t := kb t)
      rw [((hf (kb s)).1 t0 hfk).2.1]
      simp only [if_true]
      omega
  refine ⟨w', hrun, ⟨_, ownsMap_shrink hown' (Nat.le_trans hsz' (cntF_le E _)), hsz', fun u => ?_⟩, grown_btw hg⟩
  unfold updF
  by_cases e : u = kb s
  · subst e
    refine ⟨fun t' ht' => ?_, fun h => by simp at h⟩
    rw [if_pos rfl] at ht'
    cases ht'
    exact ⟨hE, Go.Maps.has_put_same hI hk _, fun z => Go.Maps.atKey_put_same hI hk _ z⟩
  · have hne : (Lit.string u) ≠ .string (kb s) := fun h => e (by injection h)
    rw [if_neg e, Go.Maps.has_put_other hne]
    refine ⟨fun t' ht' => ?_, (hf u).2⟩
    obtain ⟨k1, k2, k3⟩ := (hf u).1 t' ht'
    exact ⟨k1, k2, fun z => by rw [Go.Maps.atKey_put_other hne]; exact k3 z⟩
end Go.Proofs.YtemfhcmeeldngaaGreatDoor

/- impl.improve; impl's follow; is a rule empty. -/
set_option linter.unusedSimpArgs false
set_option linter.unusedVariables false
namespace Go.Proofs.YtemfhcmeeldngaaGreatDoor
open Go.RowKit
theorem wpList_lookup_S {w : World} {ops : Array Oper} {rest : List Oper} {o : Oper} {a : Act} {Q : Exit → Act → World → Prop} (hg : o.guard = none) (m x : Operand) (hop : o.op = Op.lookup mapT m x true)
    (B : Nat) (E : List Tx) (f : Tx → Option Tx) (hm : a.eval m = .map (some B)) (h : SMap w B E f) (s : ByteArray) (hx : a.eval x = .string s) (hs : s.size ≤ maxLen)
    (hK : wpList Tryz.prog ops Q rest (a.put o.dst (lookV (f (kb s)))) w) : wpList Tryz.prog ops Q (o :: rest) a w := by
  refine wpList_plain hg fun K' hK' => ?_
  have hrun := h.lookup hs
  unfold Oper.wp
  simp [execOp, hop, hm, hx, hrun, Result.andThen]
  exact hK' _ _ hK
theorem wpList_update_S {w : World} {ops : Array Oper} {rest : List Oper} {o : Oper} {a : Act} {Q : Exit → Act → World → Prop} (hg : o.guard = none) (m x v : Operand) (hop : o.op = Op.mapUpdate mapT m x v)
    (B : Nat) (E : List Tx) (f : Tx → Option Tx) (hm : a.eval m = .map (some B)) (h : SMap w B E f) (s t : ByteArray) (hx : a.eval x = .string s) (hv : a.eval v = .string t) (hs : s.size ≤ maxLen) (ht : t.size ≤ maxLen) (hE : kb s ∈ E) (hl : E.length < maxLen)
    (hK : ∀ z : After w B (B + 1), SMap z.w B E (updF f (kb s) (kb t)) → wpList Tryz.prog ops Q rest (a.put o.dst undef) z.w) : wpList Tryz.prog ops Q (o :: rest) a w := by
  refine wpList_plain hg fun K' hK' => ?_
  obtain ⟨w', hrun, h1, h2⟩ := h.update hs ht hE hl
  unfold Oper.wp
  simp [execOp, hop, hm, hx, hv, hrun, Result.andThen]
  exact hK' _ _ (hK ⟨w', h2⟩ h1)
/-- What improving hands back. -/
def RetImp (w : World) (B : Nat) (E : List Tx) (f : Tx → Option Tx) (b : Bool) (e : Ending) (w' : World) : Prop :=
  e = .returned (.bool b) ∧ ∃ z : After w B (B + 1), w' = z.w ∧ SMap z.w B E f
theorem lookV_some (t : ByteArray) : lookV (some (kb t)) = .tuple #[.string t, .bool true] := by
  unfold lookV
  rw [Option.getD_some, mk_kb]
  rfl
set_option maxRecDepth 8000 in
set_option maxHeartbeats 2000000 in
theorem improve_any (B : Nat) (E : List Tx) (f : Tx → Option Tx) (text rest : ByteArray) (w : World) (h : SMap w B E f) (hE : kb rest ∈ E) (hl : E.length ≤ 1000) (ht : text.size ≤ 1048576) (hr : rest.size ≤ 1048576) (ho : ∀ t, f (kb rest) = some t → t.length ≤ 1048576) :
    Calls Tryz.prog 70 #[.map (some B), .agg #[.string text, .string rest]] w (RetImp w B E (learnF f (kb rest) (kb text)) (newF f (kb rest) (kb text))) := by
  have hB := h.lt
  have hs1 : rest.size ≤ maxLen := by unfold maxLen; omega
  have ht1 : text.size ≤ maxLen := by unfold maxLen; omega
  have hl1 : E.length < maxLen := by unfold maxLen; omega
  replace h := Lib.hid h
  replace hE := Lib.hid hE
  cases hf : f (kb rest) with
  | none =>
    have hn : newF f (kb rest) (kb text) = true := by simp [newF, hf]
    rw [learnF_yes hn, hn]
    have LV := Lib.hid (show lookV (f (kb rest)) = .tuple #[.string ByteArray.empty, .bool false] by rw [hf]; rfl)
    clear hf hn ho
    go_enter Tryz.func70, Tryz.ntmps70
    go_wp2_with (first | (at_lookup; refine wpList_lookup_S rfl _ _ rfl B E f rfl (h.out.bel (by (repeat (first | (with_reducible exact Below.refl _ _) | (with_reducible assumption) | (with_reducible refine Later.out _ ?_) | (with_reducible refine bel_alloc ?_ _) | (with_reducible refine bel_drew ?_) | (with_reducible refine bel_drewN ?_ _) | (with_reducible refine bel_set ?_ ?_ _) | (with_reducible refine After.out _ ?_ ?_) | (dsimp only; omega) | omega | (simp only [World.size_alloc, World.size_setCell, World.size_drew]; omega))))) rest rfl hs1 ?_; rw [LV.out]) | (at_mapUpdate; refine wpList_update_S rfl _ _ _ rfl B E f rfl (h.out.bel (by (repeat (first | (with_reducible exact Below.refl _ _) | (with_reducible assumption) | (with_reducible refine Later.out _ ?_) | (with_reducible refine bel_alloc ?_ _) | (with_reducible refine bel_drew ?_) | (with_reducible refine bel_drewN ?_ _) | (with_reducible refine bel_set ?_ ?_ _) | (with_reducible refine After.out _ ?_ ?_) | (dsimp only; omega) | omega | (simp only [World.size_alloc, World.size_setCell, World.size_drew]; omega))))) rest text rfl rfl hs1 ht1 hE.out hl1 ?_; intro z hz; replace hz := Lib.hid hz; have hzs := z.btw.size; (try simp only [World.size_alloc] at hzs)))
    go_ret
    exact ⟨rfl, ⟨z.w, by (repeat (first | (with_reducible exact Between.refl _ _ _) | (with_reducible refine Between.drew ?_) | (with_reducible refine Between.drewN ?_ _) | (with_reducible refine Between.set ?_ ?_ ?_ _) | (with_reducible refine btw_later _ ?_) | (with_reducible refine btw_alloc ?_ _) | (with_reducible refine btw_after _ ?_) | (with_reducible assumption) | (dsimp only; omega) | omega))⟩, rfl, hz.out⟩
  | some t =>
    obtain ⟨own, rfl⟩ : ∃ own : ByteArray, t = kb own := ⟨⟨t.toArray⟩, by simp [kb]⟩
    have hown := ho _ hf
    rw [length_kb] at hown
    have hn : newF f (kb rest) (kb text) = betB text own := by simp [newF, hf, betB]
    have LV := Lib.hid (show lookV (f (kb rest)) = .tuple #[.string own, .bool true] by rw [hf]; exact lookV_some own)
    have C := fun w => isShorter_any text own w ht hown
    clear hf ho
    cases hb : betB text own
    · rw [hb] at C hn
      rw [learnF_no hn, hn]
      replace C := Lib.hid C
      clear hb hn
      go_enter Tryz.func70, Tryz.ntmps70
      go_wp2_with (first | (at_lookup; refine wpList_lookup_S rfl _ _ rfl B E f rfl (h.out.bel (by (repeat (first | (with_reducible exact Below.refl _ _) | (with_reducible assumption) | (with_reducible refine Later.out _ ?_) | (with_reducible refine bel_alloc ?_ _) | (with_reducible refine bel_drew ?_) | (with_reducible refine bel_drewN ?_ _) | (with_reducible refine bel_set ?_ ?_ _) | (with_reducible refine After.out _ ?_ ?_) | (dsimp only; omega) | omega | (simp only [World.size_alloc, World.size_setCell, World.size_drew]; omega))))) rest rfl hs1 ?_; rw [LV.out]) | (go_at_call 92; (with_reducible refine (C.out _).mono ?_); rintro e w' ⟨rfl, y1, rfl⟩; have hsy1 := y1.bel.size; (try simp only [World.size_alloc] at hsy1)))
      go_ret
      exact ⟨rfl, ⟨_, by (repeat (first | (with_reducible exact Between.refl _ _ _) | (with_reducible refine Between.drew ?_) | (with_reducible refine Between.drewN ?_ _) | (with_reducible refine Between.set ?_ ?_ ?_ _) | (with_reducible refine btw_later _ ?_) | (with_reducible refine btw_alloc ?_ _) | (with_reducible refine btw_after _ ?_) | (with_reducible assumption) | (dsimp only; omega) | omega))⟩, rfl, h.out.bel (by (repeat (first | (with_reducible exact Below.refl _ _) | (with_reducible assumption) | (with_reducible refine Later.out _ ?_) | (with_reducible refine bel_alloc ?_ _) | (with_reducible refine bel_drew ?_) | (with_reducible refine bel_drewN ?_ _) | (with_reducible refine bel_set ?_ ?_ _) | (with_reducible refine After.out _ ?_ ?_) | (dsimp only; omega) | omega | (simp only [World.size_alloc, World.size_setCell, World.size_drew]; omega))))⟩
    · rw [hb] at C hn
      rw [learnF_yes hn, hn]
      replace C := Lib.hid C
      clear hb hn
      go_enter Tryz.func70, Tryz.ntmps70
      go_wp2_with (first | (at_lookup; refine wpList_lookup_S rfl _ _ rfl B E f rfl (h.out.bel (by (repeat (first | (with_reducible exact Below.refl _ _) | (with_reducible assumption) | (with_reducible refine Later.out _ ?_) | (with_reducible refine bel_alloc ?_ _) | (with_reducible refine bel_drew ?_) | (with_reducible refine bel_drewN ?_ _) | (with_reducible refine bel_set ?_ ?_ _) | (with_reducible refine After.out _ ?_ ?_) | (dsimp only; omega) | omega | (simp only [World.size_alloc, World.size_setCell, World.size_drew]; omega))))) rest rfl hs1 ?_; rw [LV.out]) | (go_at_call 92; (with_reducible refine (C.out _).mono ?_); rintro e w' ⟨rfl, y1, rfl⟩; have hsy1 := y1.bel.size; (try simp only [World.size_alloc] at hsy1)) | (at_mapUpdate; refine wpList_update_S rfl _ _ _ rfl B E f rfl (h.out.bel (by (repeat (first | (with_reducible exact Below.refl _ _) | (with_reducible assumption) | (with_reducible refine Later.out _ ?_) | (with_reducible refine bel_alloc ?_ _) | (with_reducible refine bel_drew ?_) | (with_reducible refine bel_drewN ?_ _) | (with_reducible refine bel_set ?_ ?_ _) | (with_reducible refine After.out _ ?_ ?_) | (dsimp only; omega) | omega | (simp only [World.size_alloc, World.size_setCell, World.size_drew]; omega))))) rest text rfl rfl hs1 ht1 hE.out hl1 ?_; intro z hz; replace hz := Lib.hid hz; have hzs := z.btw.size; (try simp only [World.size_alloc] at hzs)))
      go_ret
      exact ⟨rfl, ⟨z.w, by (repeat (first | (with_reducible exact Between.refl _ _ _) | (with_reducible refine Between.drew ?_) | (with_reducible refine Between.drewN ?_ _) | (with_reducible refine Between.set ?_ ?_ ?_ _) | (with_reducible refine btw_later _ ?_) | (with_reducible refine btw_alloc ?_ _) | (with_reducible refine btw_after _ ?_) | (with_reducible assumption) | (dsimp only; omega) | omega))⟩, rfl, hz.out⟩
end Go.Proofs.YtemfhcmeeldngaaGreatDoor

/- What comes of a beginning when the other one goes on; is a rule empty; both sides. -/
set_option linter.unusedSimpArgs false
set_option linter.unusedVariables false
namespace Go.Proofs.YtemfhcmeeldngaaGreatDoor
open Go.RowKit
theorem kb_extract (s : ByteArray) (f i : Nat) (h : i ≤ s.size) : kb (s.extract f i) = ((kb s).drop f).take (i - f) := extract_list s f i h
theorem kb_tail (s : ByteArray) (f : Nat) : kb (s.extract f s.size) = (kb s).drop f := by
  rw [kb_extract s f s.size (Nat.le_refl _), List.take_of_length_le (by rw [List.length_drop, length_kb]; exact Nat.le_refl _)]
theorem kb_append (s t : ByteArray) : kb (s ++ t) = kb s ++ kb t := by unfold kb; rw [ByteArray.data_append, Array.toList_append]
theorem prefB_iff {s p : ByteArray} : prefB s p = true ↔ ∃ u, kb s = kb p ++ u := by
  unfold prefB
  rw [Bool.and_eq_true, decide_eq_true_eq, decide_eq_true_eq]
  constructor
  · rintro ⟨h1, h2⟩
    refine ⟨(kb s).drop p.size, ?_⟩
    have h3 := kb_extract s 0 p.size h1
    rw [h2, List.drop_zero, Nat.sub_zero] at h3
    rw [h3, List.take_append_drop]
  · rintro ⟨u, hu⟩
    have hl : p.size ≤ s.size := by
      have := congrArg List.length hu
      rw [List.length_append, length_kb, length_kb] at this
      omega
    refine ⟨hl, kb_inj ?_⟩
    rw [kb_extract s 0 p.size hl, hu, List.drop_zero, Nat.sub_zero, ← length_kb p, List.take_left]
theorem prefB_rest {s p : ByteArray} {u : Tx} (h : kb s = kb p ++ u) : kb (s.extract p.size s.size) = u := by
  rw [kb_tail, h, ← length_kb p, List.drop_left]
/-- What comes of a text and a rest when the other beginning goes on with `rom`. -/
def followB (text rest rom : ByteArray) : (ByteArray × ByteArray) × Bool :=
  if prefB rom rest then ((text ++ rom.extract rest.size rom.size, rom.extract rest.size rom.size), true)
  else if prefB rest rom then ((text, rest.extract rom.size rest.size), true)
  else ((ByteArray.empty, ByteArray.empty), false)
set_option maxRecDepth 8000 in
set_option maxHeartbeats 2000000 in
theorem follow_any (text rest rom : ByteArray) (a : Option Addr) (n c : Nat) (w : World) (ht : text.size ≤ 1048576) (hr : rest.size ≤ 1048576) (hm : rom.size ≤ 1048576) :
    Calls Tryz.prog 71 #[.agg #[.string text, .string rest], .agg #[.slice a n c, .string rom]] w (Ret w (.tuple #[.agg #[.string (followB text rest rom).1.1, .string (followB text rest rom).1.2], .bool (followB text rest rom).2])) := by
  have C := fun w => hasPrefix_any rom rest w hm hr
  have D := fun w => hasPrefix_any rest rom w hr hm
  cases h1 : prefB rom rest
  · rw [h1] at C
    replace C := Lib.hid C
    cases h2 : prefB rest rom
    · rw [h2] at D
      replace D := Lib.hid D
      rw [show followB text rest rom = ((ByteArray.empty, ByteArray.empty), false) by simp [followB, h1, h2]]
      clear h1 h2
      go_enter Tryz.func71, Tryz.ntmps71
      go_wp2_with (first | (go_at_call 69; (with_reducible refine (C.out _).mono ?_); rintro e w' ⟨rfl, y1, rfl⟩; have hsy1 := y1.bel.size; (try simp only [World.size_alloc] at hsy1)) | (go_at_call 69; (with_reducible refine (D.out _).mono ?_); rintro e w' ⟨rfl, y2, rfl⟩; have hsy2 := y2.bel.size; (try simp only [World.size_alloc] at hsy2)))
      refine bodyPost_ret (by simp [results, Tryz.results71, go_sem, ↓IntWalk.iteOmega, *]; try rfl) rfl ?_
      exact .mk rfl (by (repeat (first | (with_reducible exact Below.refl _ _) | (with_reducible assumption) | (with_reducible refine Later.out _ ?_) | (with_reducible refine bel_alloc ?_ _) | (with_reducible refine bel_drew ?_) | (with_reducible refine bel_drewN ?_ _) | (with_reducible refine bel_set ?_ ?_ _) | (with_reducible refine After.out _ ?_ ?_) | (dsimp only; omega) | omega | (simp only [World.size_alloc, World.size_setCell, World.size_drew]; omega))))
    · rw [h2] at D
      replace D := Lib.hid D
      have hle : rom.size ≤ rest.size := by unfold prefB at h2; simp at h2; exact h2.1
      rw [show followB text rest rom = ((text, rest.extract rom.size rest.size), true) by simp [followB, h1, h2]]
      have hle' : (rom.size : Int) ≤ (rest.size : Int) := by omega
      clear h1 h2
      go_enter Tryz.func71, Tryz.ntmps71
      go_wp2_with (first | (go_at_call 69; (with_reducible refine (C.out _).mono ?_); rintro e w' ⟨rfl, y1, rfl⟩; have hsy1 := y1.bel.size; (try simp only [World.size_alloc] at hsy1)) | (go_at_call 69; (with_reducible refine (D.out _).mono ?_); rintro e w' ⟨rfl, y2, rfl⟩; have hsy2 := y2.bel.size; (try simp only [World.size_alloc] at hsy2)))
      have hlt1 : w.heap.size + 1 + 1 < y2.w.heap.size := by omega
      refine wp_region_quiet_tail 9 (C := fun w' => ∃ x : Later _, w' = x.w) (by kernel_rfl) (by kernel_rfl) ⟨⟨_, (Below.refl _ _).drew⟩, rfl⟩ ?_
      simp only [List.take_succ_cons, List.take_zero, List.drop_succ_cons, List.drop_zero]
      repeat (go_big_quiet_step (fail))
      refine wpQuiet_nil ?_
      rintro _ ⟨xq, rfl⟩
      have hsq := xq.bel.size
      go_wp2_with fail
      refine bodyPost_ret (by simp [results, Tryz.results71, go_sem, ↓IntWalk.iteOmega, *]; try rfl) rfl ?_
      exact .mk rfl (by (repeat (first | (with_reducible exact Below.refl _ _) | (with_reducible assumption) | (with_reducible refine Later.out _ ?_) | (with_reducible refine bel_alloc ?_ _) | (with_reducible refine bel_drew ?_) | (with_reducible refine bel_drewN ?_ _) | (with_reducible refine bel_set ?_ ?_ _) | (with_reducible refine After.out _ ?_ ?_) | (dsimp only; omega) | omega | (simp only [World.size_alloc, World.size_setCell, World.size_drew]; omega))))
  · rw [h1] at C
    replace C := Lib.hid C
    have hle : rest.size ≤ rom.size := by unfold prefB at h1; simp at h1; exact h1.1
    have hle' : (rest.size : Int) ≤ (rom.size : Int) := by omega
    have hmz : (rom.extract rest.size rom.size).size = rom.size - rest.size := by rw [ByteArray.size_extract]; omega
    rw [show followB text rest rom = ((text ++ rom.extract rest.size rom.size, rom.extract rest.size rom.size), true) by simp [followB, h1]]
    have h3 : text.size + (rom.extract rest.size rom.size).size ≤ 9223372036854775807 := by omega
    have h4 : text.size + (rom.extract rest.size rom.size).size < 9223372036854775808 := by omega
    clear h1 D hmz
    go_enter Tryz.func71, Tryz.ntmps71
    go_wp2_with (first | (go_at_call 69; (with_reducible refine (C.out _).mono ?_); rintro e w' ⟨rfl, y1, rfl⟩; have hsy1 := y1.bel.size; (try simp only [World.size_alloc] at hsy1)))
    refine bodyPost_ret (by simp [results, Tryz.results71, go_sem, ↓IntWalk.iteOmega, *]; try rfl) rfl ?_
    exact .mk rfl (by (repeat (first | (with_reducible exact Below.refl _ _) | (with_reducible assumption) | (with_reducible refine Later.out _ ?_) | (with_reducible refine bel_alloc ?_ _) | (with_reducible refine bel_drew ?_) | (with_reducible refine bel_drewN ?_ _) | (with_reducible refine bel_set ?_ ?_ _) | (with_reducible refine After.out _ ?_ ?_) | (dsimp only; omega) | omega | (simp only [World.size_alloc, World.size_setCell, World.size_drew]; omega))))
end Go.Proofs.YtemfhcmeeldngaaGreatDoor

/- The rounds of the search for a text with two parsings: what they keep. -/
set_option linter.unusedSimpArgs false
set_option linter.unusedVariables false
namespace Go.Proofs.YtemfhcmeeldngaaGreatDoor
open Go.RowKit
/-- The texts of a table's rules. -/
def roms (T : List Rul) : List Tx := T.map fun r => kb r.rom
theorem roms_get {T : List Rul} {i : Nat} (h : i < T.length) : (roms T)[i]? = some (kb T[i].rom) := by simp [roms, h]
theorem roms_mem {T : List Rul} {i : Nat} (h : i < T.length) : kb T[i].rom ∈ roms T := List.mem_of_getElem? (roms_get h)
theorem roms_len {T : List Rul} (h : tableB T = true) : (ends (roms T)).length ≤ 150 := by
  have h1 := ends_len (rs := roms T) (M := 4) fun r hr => by
    obtain ⟨i, hi, rfl⟩ := List.mem_iff_getElem.1 hr
    have hi' : i < T.length := by simpa [roms] using hi
    have := (ruleB_sizes (tableB_rule h hi')).2.2
    simp only [roms, List.getElem_map, length_kb]
    exact this
  have h2 := tableB_len h
  have h3 : (roms T).length = T.length := by simp [roms]
  rw [h3] at h1
  omega
theorem roms_el {T : List Rul} (h : tableB T = true) {r : Tx} (hr : r ∈ roms T) : r.length ≤ 4 := by
  obtain ⟨i, hi, rfl⟩ := List.mem_iff_getElem.1 hr
  have hi' : i < T.length := by simpa [roms] using hi
  have := (ruleB_sizes (tableB_rule h hi')).2.2
  simp only [roms, List.getElem_map, length_kb]
  exact this
/-- All pairs of rules that can begin are known. -/
def InitF (rs : List Tx) (f : Tx → Option Tx) : Prop := ∀ (i k : Nat) (a u : Tx), rs[i]? = some a → rs[k]? = some (a ++ u) → i ≠ k → KnowsF f (a ++ u) u
/-- .. those ahead of the pair `(i, k)`. -/
def InitTo (rs : List Tx) (f : Tx → Option Tx) (i k : Nat) : Prop := ∀ (i' k' : Nat) (a u : Tx), rs[i']? = some a → rs[k']? = some (a ++ u) → i' ≠ k' → (i' < i ∨ (i' = i ∧ k' < k)) → KnowsF f (a ++ u) u
/-- What is known is sound and short. -/
structure GoodF (rs : List Tx) (f : Tx → Option Tx) : Prop where
  sound : SoundF rs f
  bound : BoundF (ends rs) f
theorem GoodF.empty (rs : List Tx) : GoodF rs fun _ => none := ⟨(fun u t h => by cases h), (fun u t h => by cases h)⟩
theorem GoodF.learn {rs : List Tx} {f : Tx → Option Tx} (h : GoodF rs f) {t u : Tx} (d : Der rs t u) (ht : t.length ≤ 4 * cntF (ends rs) f + 4) : GoodF rs (learnF f u t) :=
  ⟨h.sound.learn d, h.bound.learn (der_ends d) ht⟩
theorem GoodF.len {rs : List Tx} {f : Tx → Option Tx} (h : GoodF rs f) (hE : (ends rs).length ≤ 150) {u t : Tx} (e : f u = some t) : t.length ≤ 600 := by
  have h1 := h.bound u t e
  have h2 := cntF_le (ends rs) f
  omega
/-- A round under way: `f0` is what was known when it began; `ch` tells whether it has changed anything. -/
structure StF (rs : List Tx) (f0 f : Tx → Option Tx) (ch : Bool) : Prop where
  good : GoodF rs f
  init : InitF rs f
  cnt : cntF (ends rs) f0 ≤ cntF (ends rs) f
  no : ch = false → f = f0
  yes : ch = true → goF (ends rs) 700 f < goF (ends rs) 700 f0
theorem StF.start {rs : List Tx} {f : Tx → Option Tx} (h : GoodF rs f) (hi : InitF rs f) : StF rs f f false := ⟨h, hi, Nat.le_refl _, fun _ => rfl, fun h => by cases h⟩
theorem cntF_learn {E : List Tx} {f : Tx → Option Tx} {u t : Tx} : cntF E f ≤ cntF E (learnF f u t) := by
  unfold learnF
  split
  · exact cntF_upd
  · exact Nat.le_refl _
theorem StF.learn {rs : List Tx} {f0 f : Tx → Option Tx} {ch : Bool} (h : StF rs f0 f ch) (hE : (ends rs).length ≤ 150) {t u : Tx} (d : Der rs t u) (ht : t.length ≤ 4 * cntF (ends rs) f0 + 4) : StF rs f0 (learnF f u t) (ch || newF f u t) := by
  have hc := h.cnt
  have ht2 : t.length ≤ 700 := by have := cntF_le (ends rs) f0; omega
  refine ⟨h.good.learn d (by omega), fun i k a v h1 h2 h3 => (h.init i k a v h1 h2 h3).learn, Nat.le_trans hc cntF_learn, fun hn => ?_, fun hy => ?_⟩
  · rw [Bool.or_eq_false_iff] at hn
    rw [learnF_no hn.2, h.no hn.1]
  · cases hn : newF f u t
    · rw [hn, Bool.or_false] at hy
      rw [learnF_no hn]
      exact h.yes hy
    · have h1 := goF_learn (B := 700) (der_ends d) ht2 hn
      cases hc : ch
      · rw [h.no hc] at h1 ⊢
        exact h1
      · exact Nat.lt_trans h1 (h.yes hc)
/-- What follows from a text and a rest by one rule is known. -/
def FollK (f : Tx → Option Tx) (t v r : Tx) : Prop := (∀ u, r = v ++ u → KnowsF f (t ++ u) u) ∧ (∀ u, v = r ++ u → KnowsF f t u)
theorem closed_of {rs : List Tx} {f : Tx → Option Tx} (hi : InitF rs f) (h : ∀ u t, f u = some t → u ≠ [] → ∀ r ∈ rs, FollK f t u r) : ClosedF rs f :=
  ⟨hi, fun t v u hf hv hr => (h v t hf hv _ hr).1 u rfl, fun t r u hf hv hr => (h _ t hf hv r hr).2 u rfl⟩
/-- What following does, in plain terms. -/
theorem follow_cases (text rest rom : ByteArray) :
    ((followB text rest rom).2 = false ∧ ∀ f, FollK f (kb text) (kb rest) (kb rom)) ∨
    ((followB text rest rom).2 = true ∧ (∀ f, KnowsF f (kb (followB text rest rom).1.1) (kb (followB text rest rom).1.2) → FollK f (kb text) (kb rest) (kb rom)) ∧
      (kb (followB text rest rom).1.1).length ≤ (kb text).length + (kb rom).length ∧
      ∀ rs, Der rs (kb text) (kb rest) → kb rest ≠ [] → kb rom ∈ rs → Der rs (kb (followB text rest rom).1.1) (kb (followB text rest rom).1.2)) := by
  cases h1 : prefB rom rest
  · cases h2 : prefB rest rom
    · refine .inl ⟨by simp [followB, h1, h2], fun f => ⟨fun u hu => ?_, fun u hu => ?_⟩⟩
      · rw [prefB_iff.2 ⟨u, hu⟩] at h1; cases h1
      · rw [prefB_iff.2 ⟨u, hu⟩] at h2; cases h2
    · obtain ⟨u, hu⟩ := prefB_iff.1 h2
      have e : followB text rest rom = ((text, rest.extract rom.size rest.size), true) := by simp [followB, h1, h2]
      rw [e]
      dsimp only
      rw [prefB_rest hu]
      refine .inr ⟨rfl, fun f hk => ⟨fun v hv => ?_, fun v hv => ?_⟩, by omega, fun rs d hne hm => .sub d hne hm hu⟩
      · rw [prefB_iff.2 ⟨v, hv⟩] at h1; cases h1
      · rw [hu] at hv
        rw [← List.append_cancel_left hv]
        exact hk
  · obtain ⟨u, hu⟩ := prefB_iff.1 h1
    have e : followB text rest rom = ((text ++ rom.extract rest.size rom.size, rom.extract rest.size rom.size), true) := by simp [followB, h1]
    rw [e]
    dsimp only
    rw [kb_append, prefB_rest hu]
    refine .inr ⟨rfl, fun f hk => ⟨fun v hv => ?_, fun v hv => ?_⟩, ?_, fun rs d hne hm => .ext d hne hm hu⟩
    · rw [hu] at hv
      rw [← List.append_cancel_left hv]
      exact hk
    · have hl1 := congrArg List.length hu
      have hl2 := congrArg List.length hv
      rw [List.length_append] at hl1 hl2
      have hv0 : v = [] := List.eq_nil_of_length_eq_zero (by omega)
      have hu0 : u = [] := List.eq_nil_of_length_eq_zero (by omega)
      subst hv0 hu0
      rw [List.append_nil] at hk
      exact hk
    · rw [List.length_append]
      have hl1 := congrArg List.length hu
      rw [List.length_append] at hl1
      omega
end Go.Proofs.YtemfhcmeeldngaaGreatDoor

/- The first text with two parsings, in plain terms; the rounds of the search. -/
set_option linter.unusedSimpArgs false
set_option linter.unusedVariables false
namespace Go.Proofs.YtemfhcmeeldngaaGreatDoor
open Go.RowKit
/-- What follows from a lead by a rule is known. -/
def Fo (f : Tx → Option Tx) (x : ByteArray × ByteArray) (r : Tx) : Prop := kb x.2 ≠ [] → FollK f (kb x.1) (kb x.2) r
open Classical in
/-- The first text with two parsings, if there is one. -/
noncomputable def ambO (T : List Rul) : Option Tx := if h : ∃ f, SoundF (roms T) f ∧ ClosedF (roms T) f then h.choose [] else none
theorem ambO_eq {T : List Rul} {f : Tx → Option Tx} (hs : SoundF (roms T) f) (hc : ClosedF (roms T) f) : ambO T = f [] := by
  have h : ∃ f, SoundF (roms T) f ∧ ClosedF (roms T) f := ⟨f, hs, hc⟩
  unfold ambO
  rw [dif_pos h]
  exact final_same h.choose_spec.1 h.choose_spec.2 hs hc []
theorem InitTo.skip {rs : List Tx} {f : Tx → Option Tx} {i k : Nat} (h : InitTo rs f i k) (hk : ∀ a u, rs[i]? = some a → rs[k]? = some (a ++ u) → i ≠ k → KnowsF f (a ++ u) u) : InitTo rs f i (k + 1) := fun i' k' a u h1 h2 h3 h4 => by
  by_cases e : i' = i ∧ k' = k
  · obtain ⟨rfl, rfl⟩ := e
    exact hk a u h1 h2 h3
  · exact h i' k' a u h1 h2 h3 (by omega)
theorem InitTo.next {rs : List Tx} {f : Tx → Option Tx} {i : Nat} (h : InitTo rs f i rs.length) : InitTo rs f (i + 1) 0 := fun i' k' a u h1 h2 h3 h4 => by
  have := (List.getElem?_eq_some_iff.1 h2).1
  exact h i' k' a u h1 h2 h3 (by omega)
theorem InitTo.all {rs : List Tx} {f : Tx → Option Tx} (h : InitTo rs f rs.length 0) : InitF rs f := fun i k a u h1 h2 h3 => by
  have := (List.getElem?_eq_some_iff.1 h1).1
  exact h i k a u h1 h2 h3 (by omega)
theorem InitTo.learn {rs : List Tx} {f : Tx → Option Tx} {i k : Nat} {u t : Tx} (h : InitTo rs f i k) : InitTo rs (learnF f u t) i k := fun i' k' a v h1 h2 h3 h4 => (h i' k' a v h1 h2 h3 h4).learn
theorem InitTo.start (rs : List Tx) (f : Tx → Option Tx) : InitTo rs f 0 0 := fun i k a u h1 h2 h3 h4 => by omega
theorem length_roms (T : List Rul) : (roms T).length = T.length := by simp [roms]
theorem StF.learn' {rs : List Tx} {f0 f : Tx → Option Tx} {ch : Bool} (h : StF rs f0 f ch) (hE : (ends rs).length ≤ 150) {t u : Tx} (d : Der rs t u) (ht : t.length ≤ 4 * cntF (ends rs) f + 4) : StF rs f0 (learnF f u t) (ch || newF f u t) := by
  have hc := h.cnt
  have ht2 : t.length ≤ 700 := by have := cntF_le (ends rs) f; omega
  refine ⟨h.good.learn d (by omega), fun i k a v h1 h2 h3 => (h.init i k a v h1 h2 h3).learn, Nat.le_trans hc cntF_learn, fun hn => ?_, fun hy => ?_⟩
  · rw [Bool.or_eq_false_iff] at hn
    rw [learnF_no hn.2, h.no hn.1]
  · cases hn : newF f u t
    · rw [hn, Bool.or_false] at hy
      rw [learnF_no hn]
      exact h.yes hy
    · have h1 := goF_learn (B := 700) (der_ends d) ht2 hn
      cases hc : ch
      · rw [h.no hc] at h1 ⊢
        exact h1
      · exact Nat.lt_trans h1 (h.yes hc)
end Go.Proofs.YtemfhcmeeldngaaGreatDoor

/- Rows of leads: a text and a rest; the range over a map of texts. -/
set_option linter.unusedSimpArgs false
set_option linter.unusedVariables false
namespace Go.Proofs.YtemfhcmeeldngaaGreatDoor
open Go.RowKit
def leadC (x : ByteArray × ByteArray) : List Value := [.string x.1, .string x.2]
def leadCells (L : List (ByteArray × ByteArray)) : List Value := L.flatMap leadC
theorem leadCells_snoc (L : List (ByteArray × ByteArray)) (x : ByteArray × ByteArray) : leadCells (L ++ [x]) = leadCells L ++ leadC x := by simp [leadCells]
theorem leads_get : ∀ {L : List (ByteArray × ByteArray)} {k : Nat} (h : k < L.length) {i : Nat} {v : Value}, (leadC L[k])[i]? = some v → (leadCells L)[k * 2 + i]? = some v
  | [], k, h, i, v, hv => by simp at h
  | x :: L, 0, h, i, v, hv => by
    have hi : i < 2 := (List.getElem?_eq_some_iff.1 hv).1
    have e : leadCells (x :: L) = leadC x ++ leadCells L := rfl
    rw [e, Nat.zero_mul, Nat.zero_add, List.getElem?_append_left (by simp [leadC]; omega)]
    exact hv
  | x :: L, k + 1, h, i, v, hv => by
    have e : leadCells (x :: L) = leadC x ++ leadCells L := rfl
    have hl : (leadC x).length = 2 := rfl
    rw [e, List.getElem?_append_right (by omega), hl, show (k + 1) * 2 + i - 2 = k * 2 + i by omega]
    exact leads_get (by simpa using h) hv
theorem Row.lead {w : World} {a : Option Addr} {L : List (ByteArray × ByteArray)} (h : Row w a (leadCells L)) {k : Nat} (hk : k < L.length) : ∃ b o, a = some ⟨b, o, none⟩ ∧ b < w.heap.size ∧ w.cell? ⟨b, o + k * 2, none⟩ = some (.string L[k].1) ∧ w.cell? ⟨b, o + k * 2 + 1, none⟩ = some (.string L[k].2) := by
  obtain ⟨b, o, rfl, h0⟩ := h (k * 2 + 0) _ (leads_get hk (i := 0) rfl)
  obtain ⟨b', o', he, h1⟩ := h (k * 2 + 1) _ (leads_get hk (i := 1) rfl)
  cases he
  exact ⟨b, o, rfl, World.block_lt_of_cell? w _ h0, by simpa using h0, by rw [Nat.add_assoc]; exact h1⟩
theorem info_lead : (Tryz.prog.info? 78).map (fun i => (i.zero, i.size, i.bytes)) = some (some (.agg #[.string ByteArray.empty, .string ByteArray.empty]), 2, 32) := by kernel_rfl
theorem info_lead' : ∃ i, Tryz.prog.info? 78 = some i ∧ i.zero = some (.agg #[.string ByteArray.empty, .string ByteArray.empty]) ∧ i.size = 2 ∧ i.bytes = 32 := by
  have h := info_lead
  cases hi : Tryz.prog.info? 78 with
  | none => rw [hi] at h; cases h
  | some i =>
    rw [hi] at h
    simp only [Option.map_some, Option.some.injEq, Prod.mk.injEq] at h
    exact ⟨i, rfl, h.1, h.2.1, h.2.2⟩
theorem one_lead (x : ByteArray × ByteArray) : ∀ u ∈ leadC x, u.oneCell' = true := by
  intro u hu
  simp only [leadC, List.mem_cons, List.not_mem_nil, or_false] at hu
  rcases hu with rfl | rfl <;> rfl
/-- The range over the map `B`, its iterator in block `r`. -/
abbrev RangeS (w : World) (B r n : Nat) (D : DU) (left : Lit → Bool) (cnt : Nat) : Prop := w.ranges Tryz.prog strT (plainElem Tryz.prog strT) B r n D left cnt
theorem RangeS.keep {w w' : World} {B r n cnt : Nat} {D : DU} {left : Lit → Bool} (h : RangeS w B r n D left cnt) (hB : w'.heap[B]? = w.heap[B]?) (hr : w'.heap[r]? = w.heap[r]?) : RangeS w' B r n D left cnt := by
  obtain ⟨es, clock, since, seen, c0, h1, h2, h3, h4, h5, h6⟩ := h
  exact ⟨es, clock, since, seen, c0, hB.trans h1, h2, h3, h4, hr.trans h5, h6⟩
theorem grown_bel {w w' : World} (h : w.grownBy w' none) : Below w.heap.size w w' := ⟨h.os, h.tape, h.output, h.size, fun k hk => h.block k hk (by simp)⟩
theorem invKS : ∀ key kl, keyOf Tryz.prog strT key = some kl → ∃ x, key = Value.string x := fun key kl h => by
  obtain ⟨s, hs, _⟩ := Go.WideMaps.string_of_keyOf Tryz.underlying9 h
  exact ⟨s, hs⟩
theorem invVS : ∀ v (y : DU × List MemPlace), plainElem Tryz.prog strT v = some y → ∃ c, v = Value.string c := fun v y h => by
  obtain ⟨c, hc, _⟩ := plainElem_string_inv Tryz.underlying9 h
  exact ⟨c, hc⟩
/-- What a key and an element are that came out. -/
theorem keyS {x : ByteArray} {kl : Lit} (h : keyOf Tryz.prog strT (.string x) = some kl) : kl = .string (kb x) ∧ x.size ≤ maxLen := by
  obtain ⟨s, hs, hk, hl⟩ := Go.WideMaps.string_of_keyOf Tryz.underlying9 h
  cases hs
  exact ⟨hk, hl⟩
theorem elemS {c : ByteArray} {y : DU × List MemPlace} (h : plainElem Tryz.prog strT (.string c) = some y) : y.1 = .lit (.string (kb c)) := by
  obtain ⟨c', hc, hy, _⟩ := plainElem_string_inv Tryz.underlying9 h
  cases hc
  rw [hy]
  rfl
/-- SMap in two halves: the datum and what it says. -/
def SaysF (E : List Tx) (f : Tx → Option Tx) (D : DU) : Prop := Go.Maps.size D ≤ cntF E f ∧ ∀ u, (∀ t, f u = some t → u ∈ E ∧ Go.Maps.has D (.string u) = true ∧ ∀ z, D.atKey (.string u) z = .lit (.string t)) ∧ (f u = none → Go.Maps.has D (.string u) = false)
theorem SMap.parts {w : World} {B : Nat} {E : List Tx} {f : Tx → Option Tx} (h : SMap w B E f) : ∃ D : DU, w.ownsMap Tryz.prog strT (plainElem Tryz.prog strT) B E.length D ∧ SaysF E f D := h
theorem SaysF.entry {E : List Tx} {f : Tx → Option Tx} {D : DU} (h : SaysF E f D) {x c : ByteArray} (hh : Go.Maps.has D (.string (kb x)) = true) (hat : ∀ z, D.atKey (.string (kb x)) z = .lit (.string (kb c))) : f (kb x) = some (kb c) := by
  obtain ⟨h1, h2⟩ := h.2 (kb x)
  cases hf : f (kb x) with
  | none => rw [h2 hf] at hh; cases hh
  | some t =>
    have := (h1 t hf).2.2 .nil
    rw [hat] at this
    rw [DataW.lit.injEq, Lit.string.injEq] at this
    rw [this]
theorem sameKey_string {u v : Tx} : (Lit.string u).sameKey (.string v) = true ↔ u = v := by
  constructor
  · intro h
    have := WideAt.sameKey_eq h
    injection this
  · rintro rfl
    cases hs : (Lit.string u).sameKey (.string u)
    · exfalso
      unfold Lit.sameKey at hs
      simp at hs
    · rfl
end Go.Proofs.YtemfhcmeeldngaaGreatDoor

/- The first place of a text in a row of texts, the reference's way. -/
set_option linter.unusedSimpArgs false
set_option linter.unusedVariables false
namespace Go.Proofs.YtemfhcmeeldngaaGreatDoor
open Go.RowKit
theorem one_str1 (x : ByteArray) : ∀ u ∈ [Value.string x], u.oneCell' = true := by intro u hu; simp at hu; subst hu; rfl
def idxS (x : ByteArray) (O : List ByteArray) : Int := match O.findIdx? (fun y => decide (y = x)) with
  | some i => i
  | none => -1
theorem idxS_none {x : ByteArray} {O : List ByteArray} (h : ∀ j (hj : j < O.length), O[j] ≠ x) : idxS x O = -1 := by
  have : O.findIdx? (fun y => decide (y = x)) = none := by
    rw [List.findIdx?_eq_none_iff]
    intro z hz
    obtain ⟨j, hj, rfl⟩ := List.mem_iff_getElem.1 hz
    simpa using h j hj
  simp [idxS, this]
theorem idxS_some {x : ByteArray} {O : List ByteArray} {k : Nat} (hk : k < O.length) (h1 : O[k] = x) (h : ∀ j (hj : j < O.length), j < k → O[j] ≠ x) : idxS x O = k := by
  have : O.findIdx? (fun y => decide (y = x)) = some k := by
    rw [List.findIdx?_eq_some_iff_getElem]
    exact ⟨hk, by simpa using h1, fun j hj => by simpa using h j (by omega) hj⟩
  simp [idxS, this]
theorem Row.str {w : World} {a : Option Addr} {O : List ByteArray} (h : Row w a (strCells O)) {k : Nat} (hk : k < O.length) : ∃ b o, a = some ⟨b, o, none⟩ ∧ b < w.heap.size ∧ w.cell? ⟨b, o + k, none⟩ = some (.string O[k]) := by
  obtain ⟨b, o, rfl, hc⟩ := h k _ (strCells_get hk)
  exact ⟨b, o, rfl, World.block_lt_of_cell? w _ hc, hc⟩
set_option maxRecDepth 4000 in
set_option maxHeartbeats 1000000 in
theorem l03Find_any (x : ByteArray) (O : List ByteArray) (a : Option Addr) (n c : Nat) (w : World) (hn : O.length = n) (hm : n ≤ 1048577) (hr : Row w a (strCells O)) :
    Calls Tryz.prog 78 #[.slice a n c, .string x] w (Ret w (.int .i64 (idxS x O))) := by
  subst hn
  replace hr := Lib.hid hr
  go_enter Tryz.func78, Tryz.ntmps78
  go_wp2_with fail
  go_loopw [5] (fun i wr => ∃ k : Nat, k ≤ O.length ∧ i = .int .i64 k ∧ (∀ j (hj : j < O.length), j < k → O[j] ≠ x) ∧ ∃ z : Later w, wr = z.w) (fun i _ => O.length - (intOf i).toNat)
  case atStart => exact ⟨0, Nat.zero_le _, rfl, fun j _ h => absurd h (by omega), ⟨_, Below.refl _ _⟩, rfl⟩
  case round =>
    obtain ⟨k, hk, rfl, hall, z, rfl⟩ := hrel
    replace hall := Lib.hid hall
    by_cases hlt : k < O.length
    · obtain ⟨b, o, rfl, hb, q⟩ := hr.out.str hlt
      rcases sameB O[k] x with ⟨e2, e1⟩ | ⟨e2, e1⟩
      · have X := Lib.hid (idxS_some hlt e2 hall.out)
        clear e2
        go_wp2_with fail
        go_ret
        exact .mk (by rw [X.out]; rfl) (by (repeat (first | (with_reducible exact Below.refl _ _) | (with_reducible assumption) | (with_reducible refine Later.out _ ?_) | (with_reducible refine bel_alloc ?_ _) | (with_reducible refine bel_drew ?_) | (with_reducible refine bel_drewN ?_ _) | (with_reducible refine bel_set ?_ ?_ _) | (with_reducible refine After.out _ ?_ ?_) | (dsimp only; omega) | omega | (simp only [World.size_alloc, World.size_setCell, World.size_drew]; omega))))
      · have X := Lib.hid (show ∀ j (hj : j < O.length), j < k + 1 → O[j] ≠ x from fun j hj h1 => by
          rcases Nat.lt_or_ge j k with h2 | h2
          · exact hall.out j hj h2
          · obtain rfl : j = k := by omega
            exact e2)
        clear e2
        go_wp2_with fail
        go_roundw
        case rel => exact ⟨k + 1, by omega, by go_num, X.out, LaterC.mk (by (repeat (first | (with_reducible exact Below.refl _ _) | (with_reducible assumption) | (with_reducible refine Later.out _ ?_) | (with_reducible refine bel_alloc ?_ _) | (with_reducible refine bel_drew ?_) | (with_reducible refine bel_drewN ?_ _) | (with_reducible refine bel_set ?_ ?_ _) | (with_reducible refine After.out _ ?_ ?_) | (dsimp only; omega) | omega | (simp only [World.size_alloc, World.size_setCell, World.size_drew]; omega))))⟩
        case measure => first | (simp [intOf]; done) | (simp [intOf]; omega) | omega
    · obtain rfl : k = O.length := by omega
      have X := Lib.hid (idxS_none fun j hj => hall.out j hj hj)
      go_wp2_with fail
      go_ret
      exact .mk (by rw [X.out]; rfl) (by (repeat (first | (with_reducible exact Below.refl _ _) | (with_reducible assumption) | (with_reducible refine Later.out _ ?_) | (with_reducible refine bel_alloc ?_ _) | (with_reducible refine bel_drew ?_) | (with_reducible refine bel_drewN ?_ _) | (with_reducible refine bel_set ?_ ?_ _) | (with_reducible refine After.out _ ?_ ?_) | (dsimp only; omega) | omega | (simp only [World.size_alloc, World.size_setCell, World.size_drew]; omega))))
end Go.Proofs.YtemfhcmeeldngaaGreatDoor

/- Rests and texts in two rows, as a function. -/
set_option linter.unusedSimpArgs false
set_option linter.unusedVariables false
namespace Go.Proofs.YtemfhcmeeldngaaGreatDoor
open Go.RowKit
abbrev BB := ByteArray × ByteArray
def asF : List BB → Tx → Option Tx
  | [], _ => none
  | p :: A, u => if kb p.1 = u then some (kb p.2) else asF A u
theorem asF_none : ∀ {A : List BB} {u : Tx}, (∀ p ∈ A, kb p.1 ≠ u) → asF A u = none
  | [], u, _ => rfl
  | p :: A, u, h => by
    unfold asF
    rw [if_neg (h p (by simp))]
    exact asF_none fun q hq => h q (by simp [hq])
theorem asF_at : ∀ {A : List BB} {k : Nat} (hk : k < A.length), (∀ j (hj : j < A.length), j < k → kb A[j].1 ≠ kb A[k].1) → asF A (kb A[k].1) = some (kb A[k].2)
  | [], k, hk, _ => by simp at hk
  | p :: A, 0, hk, _ => by simp [asF]
  | p :: A, k + 1, hk, h => by
    have h0 := h 0 (by simp) (by omega)
    simp only [List.getElem_cons_zero, List.getElem_cons_succ] at h0
    simp only [List.getElem_cons_succ, asF]
    rw [if_neg h0]
    refine asF_at (by simpa using hk) fun j hj hjk => ?_
    have := h (j + 1) (by simp; omega) (by omega)
    simpa using this
theorem asF_mem : ∀ {A : List BB} {u t : Tx}, asF A u = some t → ∃ p ∈ A, kb p.1 = u ∧ kb p.2 = t
  | [], u, t, h => by cases h
  | p :: A, u, t, h => by
    unfold asF at h
    split at h
    · rename_i e
      cases h
      exact ⟨p, by simp, e, rfl⟩
    · obtain ⟨q, hq, h1⟩ := asF_mem h
      exact ⟨q, by simp [hq], h1⟩
theorem asF_snoc : ∀ {A : List BB} {r t : ByteArray}, asF A (kb r) = none → asF (A ++ [(r, t)]) = updF (asF A) (kb r) (kb t)
  | [], r, t, _ => by
    funext v
    simp only [List.nil_append, asF, updF]
    by_cases h : v = kb r
    · rw [if_pos h, if_pos h.symm]
    · rw [if_neg h, if_neg (fun e => h e.symm)]
  | p :: A, r, t, h => by
    unfold asF at h
    split at h
    · cases h
    · rename_i hne
      have ih := asF_snoc (A := A) (r := r) (t := t) h
      funext v
      show (if kb p.1 = v then some (kb p.2) else asF (A ++ [(r, t)]) v) = _
      rw [ih]
      simp only [updF, asF]
      by_cases h1 : kb p.1 = v
      · rw [if_pos h1, if_pos h1, if_neg (fun e => hne (h1.trans e))]
      · rw [if_neg h1, if_neg h1]
theorem asF_set : ∀ {A : List BB} {k : Nat} {r t : ByteArray} (hk : k < A.length), A[k].1 = r → (∀ j (hj : j < A.length), j < k → A[j].1 ≠ r) → asF (A.set k (r, t)) = updF (asF A) (kb r) (kb t)
  | [], k, r, t, hk, _, _ => by simp at hk
  | p :: A, 0, r, t, hk, e, _ => by
    simp only [List.getElem_cons_zero] at e
    funext v
    simp only [List.set_cons_zero, asF, updF]
    by_cases h : v = kb r
    · rw [if_pos h, if_pos h.symm]
    · rw [if_neg h, if_neg (fun e => h e.symm), if_neg (fun e2 => h (by rw [← e2, e]))]
  | p :: A, k + 1, r, t, hk, e, h => by
    have h0 := h 0 (by simp) (by omega)
    simp only [List.getElem_cons_zero] at h0
    have ih := asF_set (A := A) (k := k) (r := r) (t := t) (by simpa using hk) (by simpa using e) fun j hj hjk => by
      have := h (j + 1) (by simp; omega) (by omega)
      simpa using this
    funext v
    rw [List.set_cons_succ]
    show (if kb p.1 = v then some (kb p.2) else asF (A.set k (r, t)) v) = _
    rw [ih]
    simp only [updF, asF]
    by_cases h1 : kb p.1 = v
    · rw [if_pos h1, if_pos h1, if_neg (fun e => h0 (kb_inj (h1.trans e)))]
    · rw [if_neg h1, if_neg h1]
/-- No rest is there twice. -/
def NdA (A : List BB) : Prop := ∀ j k (hj : j < A.length) (hk : k < A.length), j < k → A[j].1 ≠ A[k].1
theorem NdA.at_ {A : List BB} (h : NdA A) {k : Nat} (hk : k < A.length) : asF A (kb A[k].1) = some (kb A[k].2) := asF_at hk fun j hj hjk e => h j k hj hk hjk (kb_inj e)
abbrev restsL (A : List BB) : List ByteArray := A.map (·.1)
abbrev textsL (A : List BB) : List ByteArray := A.map (·.2)
/-- What looking for a rest tells. -/
theorem find_cases (A : List BB) (r : ByteArray) : (idxS r (restsL A) = -1 ∧ asF A (kb r) = none ∧ ∀ j (hj : j < A.length), A[j].1 ≠ r) ∨ ∃ k : Nat, ∃ hk : k < A.length, idxS r (restsL A) = k ∧ A[k].1 = r ∧ asF A (kb r) = some (kb A[k].2) ∧ ∀ j (hj : j < A.length), j < k → A[j].1 ≠ r := by
  by_cases h : ∃ k, ∃ hk : k < A.length, A[k].1 = r ∧ ∀ j (hj : j < A.length), j < k → A[j].1 ≠ r
  · obtain ⟨k, hk, e, h⟩ := h
    refine .inr ⟨k, hk, idxS_some (by simpa using hk) (by simpa using e) fun j hj hjk => ?_, e, ?_, h⟩
    · have := h j (by simpa using hj) hjk
      simpa using this
    · have := asF_at hk fun j hj hjk e2 => h j hj hjk (by rw [kb_inj e2, e])
      rwa [e] at this
  · have hall : ∀ j (hj : j < A.length), A[j].1 ≠ r := by
      intro j
      induction j using Nat.strongRecOn with
      | _ j ih =>
        intro hj e
        exact h ⟨j, hj, e, fun i hi hij => ih i hij hi⟩
    refine .inl ⟨idxS_none fun j hj => ?_, asF_none fun p hp e => ?_, hall⟩
    · have := hall j (by simpa using hj)
      simpa using this
    · obtain ⟨j, hj, rfl⟩ := List.mem_iff_getElem.1 hp
      exact hall j hj (kb_inj e)
/-- What learning makes of the rows. -/
structure LrnA (A : List BB) (r t : ByteArray) (A' : List BB) : Prop where
  f : asF A' = learnF (asF A) (kb r) (kb t)
  nd : NdA A'
  len : A.length ≤ A'.length
  no : newF (asF A) (kb r) (kb t) = false → A' = A
  up : A'.length = A.length ∨ (asF A (kb r) = none ∧ A'.length = A.length + 1)
theorem LrnA.same {A : List BB} {r t : ByteArray} (h : NdA A) (hn : newF (asF A) (kb r) (kb t) = false) : LrnA A r t A :=
  ⟨(learnF_no hn).symm, h, Nat.le_refl _, fun _ => rfl, .inl rfl⟩
theorem LrnA.snoc {A : List BB} {r t : ByteArray} (h : NdA A) (hn : asF A (kb r) = none) (hall : ∀ j (hj : j < A.length), A[j].1 ≠ r) : newF (asF A) (kb r) (kb t) = true ∧ LrnA A r t (A ++ [(r, t)]) := by
  have hnew : newF (asF A) (kb r) (kb t) = true := by simp [newF, hn]
  refine ⟨hnew, ⟨by rw [learnF_yes hnew]; exact asF_snoc hn, fun j k hj hk hjk => ?_, by simp, (by rw [hnew]; intro h; cases h), .inr ⟨hn, by simp⟩⟩⟩
  simp only [List.length_append, List.length_cons, List.length_nil] at hj hk
  have hj' : j < A.length := by omega
  rw [List.getElem_append_left hj']
  rcases Nat.lt_or_ge k A.length with h1 | h1
  · rw [List.getElem_append_left h1]
    exact h j k hj' h1 hjk
  · obtain rfl : k = A.length := by omega
    rw [List.getElem_append_right (Nat.le_refl _)]
    simpa using hall j hj'
theorem LrnA.set {A : List BB} {r t : ByteArray} {k : Nat} (h : NdA A) (hk : k < A.length) (e : A[k].1 = r) (ha : asF A (kb r) = some (kb A[k].2)) (hb : betB t A[k].2 = true) (hall : ∀ j (hj : j < A.length), j < k → A[j].1 ≠ r) : newF (asF A) (kb r) (kb t) = true ∧ LrnA A r t (A.set k (r, t)) := by
  have hnew : newF (asF A) (kb r) (kb t) = true := by unfold betB at hb; simp only [newF, ha]; exact hb
  have hfst : ∀ j (hj : j < A.length), ((A.set k (r, t))[j]'(by simpa using hj)).1 = A[j].1 := fun j hj => by
    rw [List.getElem_set]
    split
    · rename_i e2; subst e2; exact e.symm
    · rfl
  refine ⟨hnew, ⟨by rw [learnF_yes hnew]; exact asF_set hk e hall, fun j l hj hl hjl => ?_, by simp, (by rw [hnew]; intro h; cases h), .inl (by simp)⟩⟩
  simp only [List.length_set] at hj hl
  rw [hfst j hj, hfst l hl]
  exact h j l hj hl hjl
theorem LrnA.cnt {A A' : List BB} {r t : ByteArray} {E : List Tx} (h : LrnA A r t A') (hA : A.length ≤ cntF E (asF A)) (hr : kb r ∈ E) : A'.length ≤ cntF E (asF A') := by
  rw [h.f]
  rcases h.up with h1 | ⟨h1, h2⟩
  · have := cntF_learn (E := E) (f := asF A) (u := kb r) (t := kb t)
    omega
  · have hnew : newF (asF A) (kb r) (kb t) = true := by simp [newF, h1]
    rw [learnF_yes hnew]
    have := cntF_new (t := kb t) hr h1
    omega
/-! ### The two rows -/
structure TwoR (w : World) (lo : Nat) (A : List BB) (a : Option Addr) (c : Nat) (a' : Option Addr) (c' : Nat) : Prop where
  r : w.ownsRow lo 9 1 (.slice a A.length c) A.length (strCells (restsL A))
  t : w.ownsRow lo 9 1 (.slice a' A.length c') A.length (strCells (textsL A))
  sep : ∀ p q : Addr, a = some p → a' = some q → p.block ≠ q.block
theorem TwoR.bel {w w' : World} {lo : Nat} {A : List BB} {a a' : Option Addr} {c c' : Nat} (h : TwoR w lo A a c a' c') (hb : Below w.heap.size w w') : TwoR w' lo A a c a' c' :=
  ⟨own_bel h.r hb, own_bel h.t hb, h.sep⟩
/-- The block of a row: writes to it leave all others. -/
theorem own_tight {w : World} {lo e s n c : Nat} {a : Option Addr} {xs : List Value} (h : w.ownsRow lo e s (.slice a n c) n xs) :
    ∃ g g', lo ≤ g ∧ g ≤ g' ∧ g' ≤ max lo w.heap.size ∧ w.ownsRow g e s (.slice a n c) n xs ∧ (∀ p : Addr, a = some p → p.block < g') ∧ (∀ k, g ≤ k → k < g' → ∃ p : Addr, a = some p ∧ p.block = k) ∧ (g < g' ∨ max lo w.heap.size ≤ g) := by
  rcases h.2 with ⟨hv, hn⟩ | ⟨g, cap, cur, hv, hg, hh, r⟩
  · have ha : a = none := by injection hv
    have hc : c = 0 := by injection hv
    subst ha hn hc
    exact ⟨max lo w.heap.size, max lo w.heap.size, by omega, Nat.le_refl _, Nat.le_refl _, ⟨h.1, .inl ⟨rfl, rfl⟩⟩, (fun p hp => by cases hp), (fun k h1 h2 => absurd h2 (by omega)), .inr (Nat.le_refl _)⟩
  · have ha : a = some ⟨g, 0, none⟩ := by injection hv
    subst ha
    have h1 := (h.lt g rfl)
    have h1' : g < w.heap.size := h1.2
    refine ⟨g, g + 1, hg, by omega, by omega, ⟨h.1, .inr ⟨g, cap, cur, hv, Nat.le_refl _, hh, r⟩⟩, (fun p hp => by cases hp; exact Nat.lt_succ_self _), (fun k h2 h3 => ⟨⟨g, 0, none⟩, rfl, (by dsimp only; omega)⟩), .inl (Nat.lt_succ_self _)⟩
/-- A row that lies in [p, p') is as it was where only [g, g') has turned. -/
theorem own_apart {w w' : World} {g g' p p' e s n c : Nat} {a : Option Addr} {xs : List Value} (h : w.ownsRow p e s (.slice a n c) n xs) (hb : Between g g' w w') (hgp : g' ≤ p ∨ p' ≤ g) (hpl : ∀ q : Addr, a = some q → q.block < p') : w'.ownsRow p e s (.slice a n c) n xs :=
  own_btw h hb fun k hk => by
    cases a with
    | none => simp [Value.ownBlock] at hk
    | some q =>
      have ek : q.block = k := by simpa [Value.ownBlock] using hk
      have h1 := hpl q rfl
      have h2 := (h.lt q.block rfl).1
      omega
end Go.Proofs.YtemfhcmeeldngaaGreatDoor

/- Learning a rest with a text, the reference's way. -/
set_option linter.unusedSimpArgs false
set_option linter.unusedVariables false
namespace Go.Proofs.YtemfhcmeeldngaaGreatDoor
open Go.RowKit
def RetLrn (w : World) (lo : Nat) (A : List BB) (r t : ByteArray) (e : Ending) (w' : World) : Prop :=
  ∃ (A' : List BB) (a : Option Addr) (c : Nat) (a' : Option Addr) (c' : Nat), e = .returned (.tuple #[.slice a A'.length c, .slice a' A'.length c', .bool (newF (asF A) (kb r) (kb t))]) ∧ LrnA A r t A' ∧ TwoR w' lo A' a c a' c' ∧ ∃ z : LaterB lo w, w' = z.w
theorem RetLrn.mk {w : World} {lo : Nat} {A : List BB} {r t : ByteArray} {e : Ending} {w' : World} {v v' : Value} {b : Bool} (A' : List BB) (a : Option Addr) (c : Nat) (a' : Option Addr) (c' : Nat) (he : e = .returned (.tuple #[v, v', .bool b])) (hb : newF (asF A) (kb r) (kb t) = b)
    (hv : v = .slice a A'.length c) (hv' : v' = .slice a' A'.length c') (hl : LrnA A r t A') (ht : TwoR w' lo A' a c a' c') (hw : Below lo w w') : RetLrn w lo A r t e w' := by
  subst hv hv' hb
  exact ⟨A', a, c, a', c', he, hl, ht, ⟨w', hw⟩, rfl⟩
theorem below_less {B B' : Nat} {w w' : World} (h : Below B w w') (hb : B' ≤ B) : Below B' w w' := ⟨h.os, h.tape, h.output, h.size, fun k hk => h.block k (by omega)⟩
theorem btw_below {g g' lo : Nat} {w w' : World} (h : Between g g' w w') (hl : lo ≤ g) (hlw : lo ≤ w.heap.size) : Below lo w w' := ⟨h.os, h.tape, h.output, h.size, fun k hk => h.block k (by omega) (.inl (by omega))⟩
set_option maxRecDepth 8000 in
set_option maxHeartbeats 4000000 in
theorem learn_any (A : List BB) (r t : ByteArray) (lo : Nat) (a a' : Option Addr) (c c' : Nat) (w : World) (h : TwoR w lo A a c a' c') (hlo : lo ≤ w.heap.size) (hnd : NdA A) (hA : A.length ≤ 1048576) (ht : t.size ≤ 1048576) (hts : ∀ p ∈ A, p.2.size ≤ 1048576) :
    Calls Tryz.prog 77 #[.slice a A.length c, .slice a' A.length c', .string r, .string t] w (RetLrn w lo A r t) := by
  have hrr : Row w a (strCells (restsL A)) := Row.of_own h.r
  have htt : Row w a' (strCells (textsL A)) := Row.of_own h.t
  have CF := fun w hr => l03Find_any r (restsL A) a A.length c w (by simp) (by omega) hr
  rcases find_cases A r with ⟨e, hn, hall⟩ | ⟨k, hk, e, hkr, hf, hall⟩
  · rw [e] at CF
    obtain ⟨hnew, hL⟩ := LrnA.snoc (t := t) hnd hn hall
    obtain ⟨g, g', hg0, hgg, hg1, hog, hgl, hgo, hge⟩ := own_tight h.r
    obtain ⟨p, p', hp0, hpp, hp1, hop, hpl, hpo, hpe⟩ := own_tight h.t
    have hsep := h.sep
    have hgp : g' ≤ p ∨ p' ≤ g := by
      rcases hge with hge | hge
      · rcases hpe with hpe | hpe
        · rcases Nat.lt_or_ge p g' with h1 | h1
          · rcases Nat.lt_or_ge g p' with h2 | h2
            · exfalso
              obtain ⟨q1, e1, e2⟩ := hgo (max g p) (Nat.le_max_left _ _) (Nat.max_lt.2 ⟨hge, h1⟩)
              obtain ⟨q2, e3, e4⟩ := hpo (max g p) (Nat.le_max_right _ _) (Nat.max_lt.2 ⟨h2, hpe⟩)
              exact hsep q1 q2 e1 e3 (e2.trans e4.symm)
            · exact .inr h2
          · exact .inl h1
        · exact .inl (Nat.le_trans hg1 hpe)
      · exact .inr (Nat.le_trans hp1 hge)
    have hg2 : g' ≤ w.heap.size := Nat.le_trans hg1 (Nat.max_le.2 ⟨hlo, Nat.le_refl _⟩)
    have hp2 : p' ≤ w.heap.size := Nat.le_trans hp1 (Nat.max_le.2 ⟨hlo, Nat.le_refl _⟩)
    obtain ⟨ii, j1, j2, j3, j4⟩ := info_str'
    have Jii := Lib.hid (And.intro j1 (And.intro j2 (And.intro j3 j4)))
    have e1 : (restsL A).length = A.length := by simp
    have e2 : (textsL A).length = A.length := by simp
    replace CF := Lib.hid CF
    replace hrr := Lib.hid hrr
    replace hog := Lib.hid hog
    replace hop := Lib.hid hop
    replace hL := Lib.hid hL
    replace hgp := Lib.hid hgp
    replace hgo := Lib.hid hgo
    replace hpo := Lib.hid hpo
    clear e hn hall hsep h htt j1 j2 j3 j4 hge hpe hg1 hp1
    go_enter Tryz.func77, Tryz.ntmps77
    go_wp2_with fail
    with_reducible refine (CF.out _ (hrr.out.bel (by (repeat (first | (with_reducible exact Below.refl _ _) | (with_reducible assumption) | (with_reducible refine Later.out _ ?_) | (with_reducible refine bel_alloc ?_ _) | (with_reducible refine bel_drew ?_) | (with_reducible refine bel_drewN ?_ _) | (with_reducible refine bel_set ?_ ?_ _) | (with_reducible refine After.out _ ?_ ?_) | (dsimp only; omega) | omega | (simp only [World.size_alloc, World.size_setCell, World.size_drew]; omega)))))).mono ?_
    rintro e w' ⟨rfl, y1, rfl⟩
    have hsy1 := y1.bel.size
    (try simp only [World.size_alloc, World.size_setCell, World.size_drew] at hsy1)
    go_wp2_with (first | ((have _tst := hop9.out); (at_builtin; (refine wpList_append_apart _ rfl _ _ _ rfl 9 ii _ 1 16 Tryz.underlying54 Jii.out.1 Jii.out.2.1 Jii.out.2.2.1 Jii.out.2.2.2 rfl (by decide) (p) (p') ?qb1 _ _ _ (strCells (textsL A)) rfl ?qb2 ?qb8 _ _ _ ([.string t]) rfl ?qb3 ?qb4 ?qb5 ?qb6 ?qb7 ?_); (case qb1 => (first | (dsimp only; omega) | omega | (simp only [World.size_alloc, World.size_setCell, World.size_drew]; omega))); (case qb2 => exact own_bel hop9.out (by (repeat (first | (with_reducible exact Below.refl _ _) | (with_reducible assumption) | (with_reducible refine Later.out _ ?_) | (with_reducible refine bel_alloc ?_ _) | (with_reducible refine bel_drew ?_) | (with_reducible refine bel_drewN ?_ _) | (with_reducible refine bel_set ?_ ?_ _) | (with_reducible refine After.out _ ?_ ?_) | (dsimp only; omega) | omega | (simp only [World.size_alloc, World.size_setCell, World.size_drew]; omega))))); (case qb8 => exact hpl); (case qb3 => (first | rfl | (simp [boolCells]; done) | (simp [intCells]; done) | (simp; done) | (first | omega | (simp only [List.length_append, List.length_cons, List.length_nil]; omega)))); (case qb4 => exact Row.made _ _ _); (case qb5 => exact one_str1 _); (case qb6 => (unfold maxLen; (first | omega | (simp only [List.length_append, List.length_cons, List.length_nil]; omega)))); (case qb7 => (first | omega | (simp only [List.length_append, List.length_cons, List.length_nil]; omega))); intro a8 c8 x8 hown8 hat8; replace hat8 := Lib.hid hat8; replace hown8 := Lib.hid hown8; have hs8 := x8.btw.size; (try simp only [World.size_alloc, World.size_setCell, World.size_drew] at hs8))) | (at_builtin; (refine wpList_append_apart _ rfl _ _ _ rfl 9 ii _ 1 16 Tryz.underlying54 Jii.out.1 Jii.out.2.1 Jii.out.2.2.1 Jii.out.2.2.2 rfl (by decide) (g) (g') ?qb9 _ _ _ (strCells (restsL A)) rfl ?qb10 ?qb16 _ _ _ ([.string r]) rfl ?qb11 ?qb12 ?qb13 ?qb14 ?qb15 ?_); (case qb9 => (first | (dsimp only; omega) | omega | (simp only [World.size_alloc, World.size_setCell, World.size_drew]; omega))); (case qb10 => exact own_bel hog.out (by (repeat (first | (with_reducible exact Below.refl _ _) | (with_reducible assumption) | (with_reducible refine Later.out _ ?_) | (with_reducible refine bel_alloc ?_ _) | (with_reducible refine bel_drew ?_) | (with_reducible refine bel_drewN ?_ _) | (with_reducible refine bel_set ?_ ?_ _) | (with_reducible refine After.out _ ?_ ?_) | (dsimp only; omega) | omega | (simp only [World.size_alloc, World.size_setCell, World.size_drew]; omega))))); (case qb16 => exact hgl); (case qb11 => (first | rfl | (simp [boolCells]; done) | (simp [intCells]; done) | (simp; done) | (first | omega | (simp only [List.length_append, List.length_cons, List.length_nil]; omega)))); (case qb12 => exact Row.made _ _ _); (case qb13 => exact one_str1 _); (case qb14 => (unfold maxLen; (first | omega | (simp only [List.length_append, List.length_cons, List.length_nil]; omega)))); (case qb15 => (first | omega | (simp only [List.length_append, List.length_cons, List.length_nil]; omega))); intro a9 c9 x9 hown9 hat9; replace hat9 := Lib.hid hat9; replace hown9 := Lib.hid hown9; have hs9 := x9.btw.size; (try simp only [World.size_alloc, World.size_setCell, World.size_drew] at hs9); have hop9 := Lib.hid (own_apart (own_bel hop.out (by (repeat (first | (with_reducible exact Below.refl _ _) | (with_reducible assumption) | (with_reducible refine Later.out _ ?_) | (with_reducible refine bel_alloc ?_ _) | (with_reducible refine bel_drew ?_) | (with_reducible refine bel_drewN ?_ _) | (with_reducible refine bel_set ?_ ?_ _) | (with_reducible refine After.out _ ?_ ?_) | (dsimp only; omega) | omega | (simp only [World.size_alloc, World.size_setCell, World.size_drew]; omega))))) x9.btw hgp.out hpl)))
    refine bodyPost_ret (by simp [results, Tryz.results77, go_sem, ↓IntWalk.iteOmega, *]; try rfl) rfl ?_
    have hb9 : ∀ q : Addr, a9 = some q → g ≤ q.block ∧ (q.block < g' ∨ w.heap.size ≤ q.block) ∧ q.block < x9.w.heap.size := fun q hq => by
      subst hq
      have h1 := hat9.out q rfl
      simp only [World.size_alloc] at h1
      have h2 := hown9.out.lt q.block rfl
      omega
    have hb8 : ∀ q : Addr, a8 = some q → p ≤ q.block ∧ (q.block < p' ∨ x9.w.heap.size ≤ q.block) := fun q hq => by
      subst hq
      have h1 := hat8.out q rfl
      simp only [World.size_alloc] at h1
      have h2 := hown8.out.lt q.block rfl
      omega
    have hw8 : Below lo w x8.w := by
      have h1 : Below lo w x9.w := Below.trans (b := _) (show Below lo w _ from ?_) (btw_below x9.btw hg0 (by (try simp only [World.size_alloc]); omega))
      · refine Below.trans h1 (Below.trans (show Below lo x9.w _ from ?_) (btw_below x8.btw hp0 (by (try simp only [World.size_alloc]); omega)))
        exact below_less (B := x9.w.heap.size) (by (repeat (first | (with_reducible exact Below.refl _ _) | (with_reducible assumption) | (with_reducible refine Later.out _ ?_) | (with_reducible refine bel_alloc ?_ _) | (with_reducible refine bel_drew ?_) | (with_reducible refine bel_drewN ?_ _) | (with_reducible refine bel_set ?_ ?_ _) | (with_reducible refine After.out _ ?_ ?_) | (dsimp only; omega) | omega | (simp only [World.size_alloc, World.size_setCell, World.size_drew]; omega)))) (by omega)
      · exact below_less (B := w.heap.size) (by (repeat (first | (with_reducible exact Below.refl _ _) | (with_reducible assumption) | (with_reducible refine Later.out _ ?_) | (with_reducible refine bel_alloc ?_ _) | (with_reducible refine bel_drew ?_) | (with_reducible refine bel_drewN ?_ _) | (with_reducible refine bel_set ?_ ?_ _) | (with_reducible refine After.out _ ?_ ?_) | (dsimp only; omega) | omega | (simp only [World.size_alloc, World.size_setCell, World.size_drew]; omega)))) hlo
    refine RetLrn.mk (A ++ [(r, t)]) a9 c9 a8 c8 rfl hnew (by simp) (by simp) hL.out ⟨?_, ?_, fun q1 q2 hq1 hq2 => ?_⟩ hw8
    · have h1 : x8.w.ownsRow g 9 1 (.slice a9 (A.length + 1) c9) (A.length + 1) (strCells (restsL A) ++ [.string r]) := by
        refine own_btw (own_bel hown9.out (by (repeat (first | (with_reducible exact Below.refl _ _) | (with_reducible assumption) | (with_reducible refine Later.out _ ?_) | (with_reducible refine bel_alloc ?_ _) | (with_reducible refine bel_drew ?_) | (with_reducible refine bel_drewN ?_ _) | (with_reducible refine bel_set ?_ ?_ _) | (with_reducible refine After.out _ ?_ ?_) | (dsimp only; omega) | omega | (simp only [World.size_alloc, World.size_setCell, World.size_drew]; omega))))) x8.btw fun k hk => ?_
        cases a9 with
        | none => simp [Value.ownBlock] at hk
        | some q =>
          have ek : q.block = k := by simpa [Value.ownBlock] using hk
          have h1 := hb9 q rfl
          have h3 := hgp.out
          omega
      rw [List.length_append, List.length_cons, List.length_nil, show restsL (A ++ [(r, t)]) = restsL A ++ [r] by simp, strCells_snoc]
      exact own_mono h1 hg0
    · rw [List.length_append, List.length_cons, List.length_nil, show textsL (A ++ [(r, t)]) = textsL A ++ [t] by simp, strCells_snoc]
      exact own_mono hown8.out hp0
    · have h1 := hb9 q1 hq1
      have h2 := hb8 q2 hq2
      have h3 := hgp.out
      omega
  · rw [e] at CF
    have hk1 : (k : Int) < (A.length : Int) := by omega
    obtain ⟨b, o, rfl, hbl, q0⟩ := htt.str (O := textsL A) (k := k) (by simpa using hk)
    simp only [List.getElem_map] at q0
    have CB := fun w => sBetter_any t A[k].2 w ht (hts _ (List.getElem_mem hk))
    cases hb : betB t A[k].2
    · have hnew : newF (asF A) (kb r) (kb t) = false := by unfold betB at hb; simp only [newF, hf]; exact hb
      have hL := Lib.hid (LrnA.same hnd hnew)
      rw [hb] at CB
      replace CB := Lib.hid CB
      replace CF := Lib.hid CF
      replace hrr := Lib.hid hrr
      replace h := Lib.hid h
      clear hb hf hall e htt
      go_enter Tryz.func77, Tryz.ntmps77
      go_wp2_with fail
      with_reducible refine (CF.out _ (hrr.out.bel (by (repeat (first | (with_reducible exact Below.refl _ _) | (with_reducible assumption) | (with_reducible refine Later.out _ ?_) | (with_reducible refine bel_alloc ?_ _) | (with_reducible refine bel_drew ?_) | (with_reducible refine bel_drewN ?_ _) | (with_reducible refine bel_set ?_ ?_ _) | (with_reducible refine After.out _ ?_ ?_) | (dsimp only; omega) | omega | (simp only [World.size_alloc, World.size_setCell, World.size_drew]; omega)))))).mono ?_
      rintro e w' ⟨rfl, y1, rfl⟩
      have hsy1 := y1.bel.size
      (try simp only [World.size_alloc, World.size_setCell, World.size_drew] at hsy1)
      go_wp2_with fail
      with_reducible refine (CB.out _).mono ?_
      rintro e w' ⟨rfl, y2, rfl⟩
      have hsy2 := y2.bel.size
      (try simp only [World.size_alloc, World.size_setCell, World.size_drew] at hsy2)
      go_wp2_with fail
      refine bodyPost_ret (by simp [results, Tryz.results77, go_sem, ↓IntWalk.iteOmega, *]; try rfl) rfl ?_
      exact RetLrn.mk A a c _ c' rfl hnew rfl rfl hL.out (h.out.bel (by (repeat (first | (with_reducible exact Below.refl _ _) | (with_reducible assumption) | (with_reducible refine Later.out _ ?_) | (with_reducible refine bel_alloc ?_ _) | (with_reducible refine bel_drew ?_) | (with_reducible refine bel_drewN ?_ _) | (with_reducible refine bel_set ?_ ?_ _) | (with_reducible refine After.out _ ?_ ?_) | (dsimp only; omega) | omega | (simp only [World.size_alloc, World.size_setCell, World.size_drew]; omega))))) (below_less (B := w.heap.size) (by (repeat (first | (with_reducible exact Below.refl _ _) | (with_reducible assumption) | (with_reducible refine Later.out _ ?_) | (with_reducible refine bel_alloc ?_ _) | (with_reducible refine bel_drew ?_) | (with_reducible refine bel_drewN ?_ _) | (with_reducible refine bel_set ?_ ?_ _) | (with_reducible refine After.out _ ?_ ?_) | (dsimp only; omega) | omega | (simp only [World.size_alloc, World.size_setCell, World.size_drew]; omega)))) hlo)
    · obtain ⟨hnew, hL⟩ := LrnA.set hnd hk hkr hf hb hall
      rw [hb] at CB
      replace CB := Lib.hid CB
      replace CF := Lib.hid CF
      replace hrr := Lib.hid hrr
      replace hL := Lib.hid hL
      have ho : o = 0 := by
        rcases h.t.2 with ⟨hv, -⟩ | ⟨g, cap, cur, hv, -⟩
        · simp at hv
        · injection hv with hv; cases hv; rfl
      subst ho
      have hlb := (h.t.lt b rfl).1
      have hfz := h.t.frozenAt k
      replace h := Lib.hid h
      clear hb hf hall e htt
      rw [Nat.zero_add] at q0
      go_enter Tryz.func77, Tryz.ntmps77
      go_wp2_with fail
      with_reducible refine (CF.out _ (hrr.out.bel (by (repeat (first | (with_reducible exact Below.refl _ _) | (with_reducible assumption) | (with_reducible refine Later.out _ ?_) | (with_reducible refine bel_alloc ?_ _) | (with_reducible refine bel_drew ?_) | (with_reducible refine bel_drewN ?_ _) | (with_reducible refine bel_set ?_ ?_ _) | (with_reducible refine After.out _ ?_ ?_) | (dsimp only; omega) | omega | (simp only [World.size_alloc, World.size_setCell, World.size_drew]; omega)))))).mono ?_
      rintro e w' ⟨rfl, y1, rfl⟩
      have hsy1 := y1.bel.size
      (try simp only [World.size_alloc, World.size_setCell, World.size_drew] at hsy1)
      go_wp2_with fail
      with_reducible refine (CB.out _).mono ?_
      rintro e w' ⟨rfl, y2, rfl⟩
      have hsy2 := y2.bel.size
      (try simp only [World.size_alloc, World.size_setCell, World.size_drew] at hsy2)
      go_wp2_with fail
      refine bodyPost_ret (by simp [results, Tryz.results77, go_sem, ↓IntWalk.iteOmega, *]; try rfl) rfl ?_
      have h2 := h.out.bel (w' := y2.w) (by (repeat (first | (with_reducible exact Below.refl _ _) | (with_reducible assumption) | (with_reducible refine Later.out _ ?_) | (with_reducible refine bel_alloc ?_ _) | (with_reducible refine bel_drew ?_) | (with_reducible refine bel_drewN ?_ _) | (with_reducible refine bel_set ?_ ?_ _) | (with_reducible refine After.out _ ?_ ?_) | (dsimp only; omega) | omega | (simp only [World.size_alloc, World.size_setCell, World.size_drew]; omega))))
      have hb2 : b < y2.w.heap.size := by omega
      have hbw : Below w.heap.size w y2.w := by (repeat (first | (with_reducible exact Below.refl _ _) | (with_reducible assumption) | (with_reducible refine Later.out _ ?_) | (with_reducible refine bel_alloc ?_ _) | (with_reducible refine bel_drew ?_) | (with_reducible refine bel_drewN ?_ _) | (with_reducible refine bel_set ?_ ?_ _) | (with_reducible refine After.out _ ?_ ?_) | (dsimp only; omega) | omega | (simp only [World.size_alloc, World.size_setCell, World.size_drew]; omega)))
      refine RetLrn.mk (A.set k (r, t)) a c (some ⟨b, 0, none⟩) c' rfl hnew (by simp) (by simp) hL.out ⟨?_, ?_, h.out.sep⟩ ?_
      · rw [List.length_set, show restsL (A.set k (r, t)) = restsL A by
          apply List.ext_getElem (by simp)
          intro i h1 h2
          simp only [restsL, List.getElem_map, List.getElem_set]
          split
          · rename_i e; subst e; exact hkr.symm
          · rfl]
        exact own_ne (p := ⟨b, k, none⟩) h2.r (fun q hq => h.out.sep q ⟨b, 0, none⟩ hq rfl) _
      · rw [List.length_set, show strCells (textsL (A.set k (r, t))) = (strCells (textsL A)).set k (.string t) by
          unfold strCells textsL
          rw [List.map_set, List.map_set]]
        exact (h2.t.stored k _).1
      · exact Below.trans (below_less hbw hlo) ⟨rfl, rfl, rfl, by simp [World.setCell], fun i hi => Below.heap_setCell _ _ _ i (by dsimp only; omega)⟩
end Go.Proofs.YtemfhcmeeldngaaGreatDoor
