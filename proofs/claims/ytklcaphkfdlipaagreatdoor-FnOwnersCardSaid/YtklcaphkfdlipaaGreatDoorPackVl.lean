import Derived.Test.YtklcaphkfdlipaaGreatDoorPackVe
/- Several of my texts, one behind the other: InnA, InnB, InnC, InnD. -/
/- A point beside a ring: the parity of the crossings, told in the sheared plane. -/
set_option linter.unusedSimpArgs false
set_option linter.unusedVariables false
namespace Go.Proofs.YtklcaphkfdlipaaGreatDoor
open Go.RowKit
/-- A point of the doubled field. -/
structure Bx (p : Pt) : Prop where
  x1 : -2000 ≤ p.x
  x2 : p.x ≤ 2000
  y1 : -2000 ≤ p.y
  y2 : p.y ≤ 2000
theorem on_lo4 {x1 y1 x2 y2 x3 y3 : Int} (hx : -4000 ≤ x2 - x1 ∧ x2 - x1 ≤ 4000 ∧ -4000 ≤ x3 - x1 ∧ x3 - x1 ≤ 4000 ∧ -4000 ≤ x3 - x2 ∧ x3 - x2 ≤ 4000)
    (ht : (x2 - x1) * (y3 - y1) - (y2 - y1) * (x3 - x1) = 0) (h1 : 4001 * y1 + x1 ≤ 4001 * y3 + x3) (h2 : 4001 * y3 + x3 ≤ 4001 * y2 + x2) : (y1 ≤ y3 ∧ y3 ≤ y2) ∧ ((x1 ≤ x3 ∧ x3 ≤ x2) ∨ (x2 ≤ x3 ∧ x3 ≤ x1)) := by
  have e1 : y1 ≤ y3 := by omega
  have e2 : y3 ≤ y2 := by omega
  refine ⟨⟨e1, e2⟩, ?_⟩
  rcases (show y1 = y2 ∨ y1 < y2 by omega) with h | h
  · omega
  · have g1 : 0 ≤ y3 - y1 := by omega
    have g2 : 0 ≤ y2 - y3 := by omega
    have g3 : 0 < y2 - y1 := by omega
    rcases Int.le_total x1 x2 with hx2 | hx2
    · have m1 := Int.mul_nonneg (show 0 ≤ x2 - x1 by omega) g1
      have m2 := Int.mul_nonneg (show 0 ≤ x2 - x1 by omega) g2
      left
      constructor
      · refine Int.not_lt.1 fun hlt => ?_
        have := Int.mul_pos g3 (show 0 < x1 - x3 by omega)
        grind
      · refine Int.not_lt.1 fun hlt => ?_
        have := Int.mul_pos g3 (show 0 < x3 - x2 by omega)
        grind
    · have m1 := Int.mul_nonneg (show 0 ≤ x1 - x2 by omega) g1
      have m2 := Int.mul_nonneg (show 0 ≤ x1 - x2 by omega) g2
      right
      constructor
      · refine Int.not_lt.1 fun hlt => ?_
        have := Int.mul_pos g3 (show 0 < x2 - x3 by omega)
        grind
      · refine Int.not_lt.1 fun hlt => ?_
        have := Int.mul_pos g3 (show 0 < x3 - x1 by omega)
        grind
theorem on_of4 {a b c : Pt} (ha : Bx a) (hb : Bx b) (hc : Bx c) (ht : turnZ a b c = 0) (h : ((shr a).y ≤ (shr c).y ∧ (shr c).y ≤ (shr b).y) ∨ ((shr b).y ≤ (shr c).y ∧ (shr c).y ≤ (shr a).y)) : isOnB a b c = true := by
  obtain ⟨a1, a2, a3, a4⟩ := ha
  obtain ⟨b1, b2, b3, b4⟩ := hb
  obtain ⟨c1, c2, c3, c4⟩ := hc
  simp only [shr] at h
  unfold isOnB inB
  rw [ht]
  unfold turnZ at ht
  simp only [Bool.and_eq_true, beq_self_eq_true, decide_eq_true_eq, true_and]
  rcases h with ⟨h1, h2⟩ | ⟨h1, h2⟩
  · have := on_lo4 (x1 := a.x) (y1 := a.y) (x2 := b.x) (y2 := b.y) (x3 := c.x) (y3 := c.y) (by omega) ht h1 h2
    omega
  · have := on_lo4 (x1 := b.x) (y1 := b.y) (x2 := a.x) (y2 := a.y) (x3 := c.x) (y3 := c.y) (by omega) (by grind) h1 h2
    omega
/-- A point on a segment lies between its ends in the sheared plane too. -/
theorem on_back {a b c : Pt} (ha : Bx a) (hb : Bx b) (hc : Bx c) (h : isOnB a b c = true) : turnZ a b c = 0 ∧ (((shr a).y ≤ (shr c).y ∧ (shr c).y ≤ (shr b).y) ∨ ((shr b).y ≤ (shr c).y ∧ (shr c).y ≤ (shr a).y)) := by
  obtain ⟨a1, a2, a3, a4⟩ := ha
  obtain ⟨b1, b2, b3, b4⟩ := hb
  obtain ⟨c1, c2, c3, c4⟩ := hc
  unfold isOnB inB at h
  simp only [Bool.and_eq_true, beq_iff_eq, decide_eq_true_eq] at h
  obtain ⟨⟨ht, h1⟩, h2⟩ := h
  refine ⟨ht, ?_⟩
  simp only [shr]
  unfold turnZ at ht
  have k1 : c.y = a.y → a.y ≠ b.y → c.x = a.x := fun e1 e2 => by
    have e3 : (b.y - a.y) * (c.x - a.x) = 0 := by rw [e1] at ht; grind
    rcases Int.mul_eq_zero.1 e3 with h | h <;> omega
  have k2 : c.y = b.y → a.y ≠ b.y → c.x = b.x := fun e1 e2 => by
    have e3 : (b.y - a.y) * (c.x - b.x) = 0 := by rw [e1] at ht; grind
    rcases Int.mul_eq_zero.1 e3 with h | h <;> omega
  clear ht
  rcases Int.lt_trichotomy a.y b.y with hy | hy | hy
  · left
    have : c.y = a.y ∨ (a.y < c.y ∧ c.y < b.y) ∨ c.y = b.y := by omega
    rcases this with h | h | h
    · have := k1 h (by omega); omega
    · omega
    · have := k2 h (by omega); omega
  · omega
  · right
    have : c.y = a.y ∨ (b.y < c.y ∧ c.y < a.y) ∨ c.y = b.y := by omega
    rcases this with h | h | h
    · have := k1 h (by omega); omega
    · omega
    · have := k2 h (by omega); omega
/-- Which side of the line a point lies on, told by the line's place at its height. -/
theorem xAt_side {a b p : Pt} (h : a.y ≠ b.y) (ht : turnZ a b p ≠ 0) : ((p.x : Rat) < xAt a b (2 * p.y) ↔ (0 < turnZ a b p ↔ a.y < b.y)) := by
  have e := xAt_turn h p
  have hne : xAt a b (2 * p.y) - (p.x : Rat) ≠ 0 := fun h2 => ht (turn_zero h h2)
  generalize turnZ a b p = t at *
  have c1 : 0 < (t : Rat) → 0 < t := fun h => by exact_mod_cast h
  have c2 : (t : Rat) < 0 → t < 0 := fun h => by exact_mod_cast h
  have m1 : ∀ {x y : Rat}, 0 < x → 0 < y → 0 < x * y := fun h1 h2 => Rat.mul_pos h1 h2
  have d1 : a.y < b.y → (0 : Rat) < ((b.y - a.y : Int) : Rat) := fun h => by exact_mod_cast (show (0 : Int) < b.y - a.y by omega)
  have d2 : b.y < a.y → (0 : Rat) < -((b.y - a.y : Int) : Rat) := fun h => by
    have : ((b.y - a.y : Int) : Rat) < 0 := by exact_mod_cast (show b.y - a.y < (0 : Int) by omega)
    grind
  generalize xAt a b (2 * p.y) = X at *
  generalize ((b.y - a.y : Int) : Rat) = D at *
  rcases (show (p.x : Rat) < X ∨ X < (p.x : Rat) by grind) with h1 | h1 <;> rcases Int.lt_or_gt_of_ne h with h2 | h2
  · have := c1 (by rw [e]; exact m1 (d1 h2) (by grind))
    exact ⟨fun _ => ⟨fun _ => h2, fun _ => this⟩, fun _ => h1⟩
  · have := c2 (by rw [e]; have := m1 (d2 h2) (show 0 < X - (p.x : Rat) by grind); grind)
    exact ⟨fun _ => ⟨fun h => by omega, fun h => by omega⟩, fun _ => h1⟩
  · have := c2 (by rw [e]; have := m1 (d1 h2) (show 0 < (p.x : Rat) - X by grind); grind)
    exact ⟨fun h => by grind, fun h => by have := h.2 h2; omega⟩
  · have := c1 (by rw [e]; have := m1 (d2 h2) (show 0 < (p.x : Rat) - X by grind); grind)
    exact ⟨fun h => by grind, fun h => by have := h.1 this; omega⟩
/-- What an edge counts beside a point of the sheared plane. -/
def tmE (a b p : Pt) : Int := if (p.x : Rat) < xAt a b (2 * p.y) then (if 2 * a.y < 2 * p.y + 1 then 1 else 0) - (if 2 * b.y < 2 * p.y + 1 then 1 else 0) else 0
/-- At a point's height, and to the right of it. -/
def rgt (a p : Pt) : Int := if a.y = p.y ∧ p.x < a.x then 1 else 0
theorem tm_bd3 (a b p : Pt) : tmE a b p = 0 ∨ tmE a b p = 1 ∨ tmE a b p = -1 := by
  unfold tmE
  (repeat' split) <;> omega
theorem flip_par {a b p : Pt} (ha : Bx a) (hb : Bx b) (hp : Bx p) (hab : a ≠ b) (hon : isOnB a b p = false) :
    (flip a b p = true ↔ (tmE (shr a) (shr b) (shr p) + (rgt b p - rgt a p)) % 2 ≠ 0) := by
  have hne : (shr a).y ≠ (shr b).y := fun h => hab (by
    obtain ⟨a1, a2, a3, a4⟩ := ha
    obtain ⟨b1, b2, b3, b4⟩ := hb
    simp only [shr] at h
    exact Pt.ext' (by omega) (by omega))
  have hz : (((shr a).y ≤ (shr p).y ∧ (shr p).y ≤ (shr b).y) ∨ ((shr b).y ≤ (shr p).y ∧ (shr p).y ≤ (shr a).y)) → turnZ a b p ≠ 0 := fun h ht => by
    rw [on_of4 ha hb hp ht h] at hon; cases hon
  have hs : turnZ a b p ≠ 0 → (((shr p).x : Rat) < xAt (shr a) (shr b) (2 * (shr p).y) ↔ (0 < turnZ a b p ↔ (shr a).y < (shr b).y)) := fun ht => by
    have := xAt_side (p := shr p) hne (by rw [turn_shr]; omega)
    rw [turn_shr] at this
    rw [this]
    constructor
    · intro h; constructor
      · intro h2; exact h.1 (by omega)
      · intro h2; have := h.2 h2; omega
    · intro h; constructor
      · intro h2; exact h.1 (by omega)
      · intro h2; have := h.2 h2; omega
  have s1 : a.y = p.y → p.x < a.x → a.y < b.y → 0 < turnZ a b p := fun h1 h2 h3 => by
    have := Int.mul_pos (show 0 < b.y - a.y by omega) (show 0 < a.x - p.x by omega)
    unfold turnZ; rw [← h1]; grind
  have s2 : a.y = p.y → p.x < a.x → b.y < a.y → turnZ a b p < 0 := fun h1 h2 h3 => by
    have := Int.mul_pos (show 0 < a.y - b.y by omega) (show 0 < a.x - p.x by omega)
    unfold turnZ; rw [← h1]; grind
  have s3 : b.y = p.y → p.x < b.x → a.y < b.y → 0 < turnZ a b p := fun h1 h2 h3 => by
    have := Int.mul_pos (show 0 < b.y - a.y by omega) (show 0 < b.x - p.x by omega)
    unfold turnZ; rw [← h1]; grind
  have s4 : b.y = p.y → p.x < b.x → b.y < a.y → turnZ a b p < 0 := fun h1 h2 h3 => by
    have := Int.mul_pos (show 0 < a.y - b.y by omega) (show 0 < b.x - p.x by omega)
    unfold turnZ; rw [← h1]; grind
  have s5 : a.y = p.y → b.y = p.y → turnZ a b p = 0 := fun h1 h2 => by
    unfold turnZ; rw [h1, h2]; grind
  have hf : flip a b p = true ↔ ((p.y < a.y ↔ ¬ p.y < b.y) ∧ (0 < turnZ a b p ↔ a.y < b.y)) := by
    unfold flip
    by_cases c1 : p.y < a.y <;> by_cases c2 : p.y < b.y <;> by_cases c3 : 0 < turnZ a b p <;> by_cases c4 : a.y < b.y <;> simp [c1, c2, c3, c4]
  rw [hf]
  clear hf hon hab
  unfold tmE rgt
  obtain ⟨a1, a2, a3, a4⟩ := ha
  obtain ⟨b1, b2, b3, b4⟩ := hb
  obtain ⟨p1, p2, p3, p4⟩ := hp
  generalize xAt (shr a) (shr b) (2 * (shr p).y) = X at *
  generalize turnZ a b p = t at *
  by_cases hX : ((shr p).x : Rat) < X
  · rw [if_pos hX]
    simp only [hX, true_iff] at hs
    simp only [shr] at *
    by_cases t0 : t = 0
    · (repeat' split) <;> omega
    · have := hs t0
      (repeat' split) <;> omega
  · rw [if_neg hX]
    simp only [hX, false_iff] at hs
    simp only [shr] at *
    by_cases t0 : t = 0
    · (repeat' split) <;> omega
    · have := hs t0
      have h9 : (0 < t ∧ ¬ 4001 * a.y + a.x < 4001 * b.y + b.x) ∨ (¬ 0 < t ∧ 4001 * a.y + a.x < 4001 * b.y + b.x) := by
        by_cases k1 : 0 < t
        · exact .inl ⟨k1, fun k2 => this ⟨fun _ => k2, fun _ => k1⟩⟩
        · exact .inr ⟨k1, Classical.byContradiction fun k2 => this ⟨fun h => absurd h k1, fun h => absurd h k2⟩⟩
      clear this hs
      (repeat' split) <;> omega
/-- The corners of a ring in the sheared plane. -/
def crn (L : List Pt) (i : Nat) : Pt := shr (cor L i)
theorem sideTo_par {L : List Pt} {p : Pt} (hb : ∀ i, Bx (cor L i)) (hp : Bx p) (hd : ∀ i, i < L.length → cor L i ≠ cor L (i + 1)) (hon : ∀ i, i < L.length → onAt L p i = false) :
    ∀ k, k ≤ L.length → (sideTo L p k = -1 ∧ (sumZ (fun j => tmE (crn L j) (crn L (j + 1)) (shr p)) k + (rgt (cor L k) p - rgt (cor L 0) p)) % 2 = 0) ∨ (sideTo L p k = 1 ∧ (sumZ (fun j => tmE (crn L j) (crn L (j + 1)) (shr p)) k + (rgt (cor L k) p - rgt (cor L 0) p)) % 2 ≠ 0)
  | 0, _ => .inl ⟨rfl, by simp [sumZ]⟩
  | k + 1, hk => by
    have ih := sideTo_par hb hp hd hon k (by omega)
    have hf : (flip (cor L k) (cor L (k + 1)) p = true ↔ (tmE (crn L k) (crn L (k + 1)) (shr p) + (rgt (cor L (k + 1)) p - rgt (cor L k) p)) % 2 ≠ 0) := flip_par (hb k) (hb (k + 1)) hp (hd k (by omega)) (hon k (by omega))
    have ht := tm_bd3 (crn L k) (crn L (k + 1)) (shr p)
    simp only [sumZ, sideTo]
    generalize tmE (crn L k) (crn L (k + 1)) (shr p) = t at *
    generalize sumZ _ k = S at *
    generalize rgt (cor L k) p = u at *
    generalize rgt (cor L (k + 1)) p = v at *
    generalize rgt (cor L 0) p = z at *
    by_cases h : flip (cor L k) (cor L (k + 1)) p = true
    · rw [if_pos h]
      have := hf.1 h
      omega
    · rw [if_neg h]
      have : (t + (v - u)) % 2 = 0 := by
        refine Decidable.byContradiction fun hc => h (hf.2 hc)
      omega
/-- The number of windings beside a point, up to its height. -/
def rp (q : Nat → Pt) (n : Nat) (p : Pt) : Int := sumZ (fun j => tmE (q j) (q (j + 1)) p) n
theorem sideZ_par {L : List Pt} {p : Pt} (hb : ∀ i, Bx (cor L i)) (hp : Bx p) (hd : ∀ i, i < L.length → cor L i ≠ cor L (i + 1)) :
    0 < sideZ L p ↔ (∀ i, i < L.length → onAt L p i = false) ∧ rp (crn L) L.length (shr p) % 2 ≠ 0 := by
  by_cases hon : ∀ i, i < L.length → onAt L p i = false
  · have h1 := sideTo_par hb hp hd hon L.length (Nat.le_refl _)
    have e : cor L L.length = cor L 0 := cor_per L 0
    rw [sideZ_off hon]
    rw [e] at h1
    unfold rp
    generalize sumZ _ L.length = S at *
    generalize sideTo L p L.length = Z at *
    rcases h1 with ⟨h1, h2⟩ | ⟨h1, h2⟩
    · exact ⟨fun h => absurd h (by omega), fun h => absurd h.2 (by omega)⟩
    · exact ⟨fun _ => ⟨hon, by omega⟩, fun _ => by omega⟩
  · have h2 : ∃ i, i < L.length ∧ onAt L p i = true := by
      refine Classical.byContradiction fun hc => hon fun i hi => ?_
      rw [Bool.eq_false_iff]
      exact fun h => hc ⟨i, hi, h⟩
    obtain ⟨i, hi, h⟩ := h2
    rw [sideZ_on hi h]
    exact ⟨fun h => absurd h (by omega), fun h => absurd h.1 hon⟩
end Go.Proofs.YtklcaphkfdlipaaGreatDoor

/- Edges that keep their order; the winding of a ring beside an edge of another one. -/
set_option linter.unusedSimpArgs false
set_option linter.unusedVariables false
namespace Go.Proofs.YtklcaphkfdlipaaGreatDoor
open Go.RowKit
/-- Two edges keep their order, but at corners that they share. -/
def Fits (a b c d : Pt) : Prop := ∀ S T : Int, inR a b S → inR c d S → inR a b T → inR c d T → (∀ u v, (u = a ∨ u = b) → (v = c ∨ v = d) → u.y = v.y → S ≠ 2 * u.y ∧ T ≠ 2 * u.y) → sameQ (xAt c d S - xAt a b S) (xAt c d T - xAt a b T)
theorem xAt_comm {a b : Pt} (h : a.y ≠ b.y) (T : Int) : xAt a b T = xAt b a T := by
  have e1 := bet_mul h
  have e2 := bet_mul h.symm
  have hne := castsub_ne h
  unfold xAt
  generalize bet a b = u at *
  generalize bet b a = v at *
  simp only [Rat.intCast_sub, Rat.intCast_mul] at *
  have z2 : ((2 : Int) : Rat) = 2 := rfl
  rw [z2] at *
  have e3 : (u - v) * ((b.y : Rat) - (a.y : Rat)) = 0 := by grind
  have e4 : u = v := by
    rcases Rat.mul_eq_zero.1 e3 with h | h
    · grind
    · exact absurd h hne
  subst e4
  grind
theorem inR_comm {a b : Pt} {T : Int} (h : inR a b T) : inR b a T := by unfold inR at h ⊢; omega
theorem Fits.swap {a b c d : Pt} (h : Fits a b c d) : Fits c d a b := fun S T s1 s2 t1 t2 hv => by
  have := (h S T s2 s1 t2 t1 fun u v hu hv' e => by have := hv v u hv' hu e.symm; rw [e]; exact this).neg
  have e3 : ∀ a b : Rat, -(a - b) = b - a := fun a b => by grind
  rw [e3, e3] at this
  exact this
theorem Fits.rev {a b c d : Pt} (h : Fits a b c d) (hab : a.y ≠ b.y) : Fits b a c d := fun S T s1 s2 t1 t2 hv => by
  rw [← xAt_comm hab, ← xAt_comm hab]
  exact h S T (inR_comm s1) s2 (inR_comm t1) t2 fun u v hu hv' e => hv u v hu.symm hv' e
theorem Fits.rev2 {a b c d : Pt} (h : Fits a b c d) (hcd : c.y ≠ d.y) : Fits a b d c := (h.swap.rev hcd).swap
theorem Fits.odd {a b c d : Pt} (h : Fits a b c d) {k : Int} (s1 : inR a b (2 * k + 1)) (s2 : inR c d (2 * k + 1)) : xAt a b (2 * k + 1) ≠ xAt c d (2 * k + 1) :=
  (h _ _ s1 s2 s1 s2 fun u v _ _ _ => by omega).iff.2.1
/-- From a height to the one half above it. -/
theorem Fits.keep {a b c d : Pt} (F : Fits a b c d) (hab : a.y ≠ b.y) (hcd : c.y ≠ d.y) (inj : ∀ u v, (u = a ∨ u = b) → (v = c ∨ v = d) → u.y = v.y → u = v) {H : Int} (s1 : inR a b (2 * H)) (s2 : inR c d (2 * H)) (t1 : inR a b (2 * H + 1)) (t2 : inR c d (2 * H + 1))
    (hne : xAt a b (2 * H) ≠ xAt c d (2 * H)) : (xAt a b (2 * H) < xAt c d (2 * H) ↔ xAt a b (2 * H + 1) < xAt c d (2 * H + 1)) :=
  (F _ _ s1 s2 t1 t2 fun u v hu hv e => by
    refine ⟨fun hS => hne ?_, by omega⟩
    have euv := inj u v hu hv e
    have e1 : xAt a b (2 * u.y) = (u.x : Rat) := by rcases hu with rfl | rfl; exact xAt_lo _ _; exact xAt_hi hab
    have e2 : xAt c d (2 * v.y) = (v.x : Rat) := by rcases hv with rfl | rfl; exact xAt_lo _ _; exact xAt_hi hcd
    rw [hS, e1, euv, e2]).iff.1
theorem Poly.fits {n : Nat} {q : Nat → Pt} (P : Poly n q) {i j : Nat} (hi : i < n) (hj : j < n) (hij : i ≠ j) : Fits (q i) (q (i + 1)) (q j) (q (j + 1)) := fun S T s1 s2 t1 t2 h =>
  P.ord hi hj hij s1 s2 t1 t2 fun m m' hm hm' hy => h (q m) (q m') (by rcases hm with rfl | rfl; exact .inl rfl; exact .inr rfl) (by rcases hm' with rfl | rfl; exact .inl rfl; exact .inr rfl) hy
theorem sg_in {q : Nat → Pt} {j : Nat} {H : Int} (h : sg q j (2 * H + 1) ≠ 0) : rq q j (2 * H) ∧ rq q j (2 * H + 1) := by
  unfold rq inR
  unfold sg at h
  split at h <;> split at h <;> omega
theorem sumZ_same {f g : Nat → Int} : ∀ {n : Nat}, (∀ i, i < n → f i = g i) → sumZ f n = sumZ g n
  | 0, _ => rfl
  | n + 1, h => by simp only [sumZ]; rw [sumZ_same (n := n) fun i hi => h i (by omega), h n (by omega)]
theorem rp_eq (q : Nat → Pt) (n : Nat) (p : Pt) : rp q n p = sumZ (fun j => if (p.x : Rat) < xq q j (2 * p.y) then sg q j (2 * p.y + 1) else 0) n := rfl
/-- The first edge to the right of a point: what winds beside it. -/
theorem Poly.first {n : Nat} {q : Nat → Pt} (P : Poly n q) (inj : ∀ i j, (q i).y = (q j).y → q i = q j) {p : Pt} (hoff : ∀ j, j < n → rq q j (2 * p.y) → xq q j (2 * p.y) ≠ (p.x : Rat)) {i : Nat} (hi : i < n) (hs : sg q i (2 * p.y + 1) ≠ 0) (hx : (p.x : Rat) < xq q i (2 * p.y))
    (hmin : ∀ j, j < n → sg q j (2 * p.y + 1) ≠ 0 → (p.x : Rat) < xq q j (2 * p.y) → xq q i (2 * p.y + 1) ≤ xq q j (2 * p.y + 1)) : rp q n p = rr q n (xq q i (2 * p.y + 1)) (2 * p.y + 1) + sg q i (2 * p.y + 1) := by
  rw [rp_eq]
  unfold rr
  refine sumZ_one (k := i) hi fun j hj => ?_
  by_cases hji : j = i
  · subst hji
    rw [if_pos hx, if_neg Rat.lt_irrefl, if_pos rfl]; omega
  · rw [if_neg hji]
    by_cases h0 : sg q j (2 * p.y + 1) = 0
    · rw [h0]; simp
    · obtain ⟨i1, i2⟩ := sg_in hs
      obtain ⟨k1, k2⟩ := sg_in h0
      have F := P.fits hi hj (Ne.symm hji)
      have hne : xq q i (2 * p.y + 1) ≠ xq q j (2 * p.y + 1) := F.odd i2 k2
      by_cases h1 : (p.x : Rat) < xq q j (2 * p.y)
      · have := hmin j hj h0 h1
        rw [if_pos h1, if_pos (by grind)]; omega
      · have h2 := hoff j hj k1
        have h3 : xq q j (2 * p.y) < xq q i (2 * p.y) := by grind
        have h4 := (F.swap.keep (P.step hj) (P.step hi) (fun u v hu hv e => by
          rcases hu with rfl | rfl <;> rcases hv with rfl | rfl <;> exact inj _ _ e) k1 i1 k2 i2 (show xq q j (2 * p.y) ≠ xq q i (2 * p.y) by grind)).1 h3
        have h5 : xq q j (2 * p.y + 1) < xq q i (2 * p.y + 1) := h4
        rw [if_neg h1, if_neg (by grind)]; omega
section
variable {a b : Pt} {n : Nat} {q : Nat → Pt} (P : Poly n q) (hab : a.y ≠ b.y) (hF : ∀ j, j < n → Fits a b (q j) (q (j + 1)))
include P hab hF
/-- The same beside an edge of another ring. -/
theorem Poly.other (inj : ∀ u j, (u = a ∨ u = b) → u.y = (q j).y → u = q j) {p : Pt} (hoff : ∀ j, j < n → rq q j (2 * p.y) → xq q j (2 * p.y) ≠ (p.x : Rat)) (s1 : inR a b (2 * p.y)) (t1 : inR a b (2 * p.y + 1)) (hx : (p.x : Rat) < xAt a b (2 * p.y))
    (hmin : ∀ j, j < n → sg q j (2 * p.y + 1) ≠ 0 → (p.x : Rat) < xq q j (2 * p.y) → xAt a b (2 * p.y + 1) ≤ xq q j (2 * p.y + 1)) : rp q n p = rr q n (xAt a b (2 * p.y + 1)) (2 * p.y + 1) := by
  rw [rp_eq]
  unfold rr
  refine sumZ_same fun j hj => ?_
  by_cases h0 : sg q j (2 * p.y + 1) = 0
  · rw [h0]; simp
  · obtain ⟨k1, k2⟩ := sg_in h0
    have hne : xAt a b (2 * p.y + 1) ≠ xq q j (2 * p.y + 1) := (hF j hj).odd t1 k2
    by_cases h1 : (p.x : Rat) < xq q j (2 * p.y)
    · have := hmin j hj h0 h1
      rw [if_pos h1, if_pos (by grind)]
    · have h2 := hoff j hj k1
      have h3 : xq q j (2 * p.y) < xAt a b (2 * p.y) := by grind
      have h4 := ((hF j hj).swap.keep (P.step hj) hab (fun u v hu hv e => by
        rcases hu with rfl | rfl
        · exact (inj v j hv e.symm).symm
        · exact (inj v (j + 1) hv e.symm).symm) k1 s1 k2 t1 (show xq q j (2 * p.y) ≠ xAt a b (2 * p.y) by grind)).1 h3
      have h5 : xq q j (2 * p.y + 1) < xAt a b (2 * p.y + 1) := h4
      rw [if_neg h1, if_neg (by grind)]
/-- The winding beside an edge of another ring is the same at the next level. -/
theorem Poly.level2 {h : Int} (hy : (a.y < h ∧ h < b.y) ∨ (b.y < h ∧ h < a.y)) : rr q n (xAt a b (2 * h - 1)) (2 * h - 1) = rr q n (xAt a b (2 * h + 1)) (2 * h + 1) := by
  have h1 : inR a b (2 * h - 1) := by unfold inR; omega
  have h2 : inR a b (2 * h + 1) := by unfold inR; omega
  have h0 : inR a b (2 * h) := by unfold inR; omega
  have hG : ∀ j, j < n → ∀ S T : Int, inR a b S → rq q j S → inR a b T → rq q j T → (∀ u v, (u = a ∨ u = b) → (v = q j ∨ v = q (j + 1)) → u.y = v.y → S ≠ 2 * u.y ∧ T ≠ 2 * u.y) → sameQ (xq q j S - xAt a b S) (xq q j T - xAt a b T) := fun j hj S T => hF j hj S T
  unfold rr
  rw [sumZ_tel (g := fun j => if xAt a b (2 * h + 1) < xq q j (2 * h + 1) then sg q j (2 * h + 1) else 0) (c := fun j => if (q j).y = h ∧ xAt a b (2 * h) < ((q j).x : Rat) then 1 else 0)]
  · simp only [P.per]; omega
  · intro j hj
    have hst := P.step hj
    by_cases y1 : (q j).y = h
    · have hc2 : ¬ ((q (j + 1)).y = h ∧ xAt a b (2 * h) < ((q (j + 1)).x : Rat)) := fun k => hst (by omega)
      have ex : ((q j).x : Rat) = xq q j (2 * h) := by rw [← y1, xq_lo]
      rw [if_neg hc2, ex]
      have hj0 : rq q j (2 * h) := by unfold rq inR; omega
      rcases (show (q (j + 1)).y < h ∨ h < (q (j + 1)).y by omega) with y2 | y2
      · have e1 : sg q j (2 * h - 1) = -1 := by unfold sg; rw [if_neg (by omega), if_pos (by omega)]; rfl
        have e2 : sg q j (2 * h + 1) = 0 := by unfold sg; rw [if_pos (by omega), if_pos (by omega)]; rfl
        have hj1 : rq q j (2 * h - 1) := by unfold rq inR; omega
        have ho := (hG j hj _ _ h1 hj1 h0 hj0 (fun u v k1 k2 k3 => by rcases k1 with rfl | rfl <;> omega)).iff.1
        rw [e1, e2]
        simp only [ho, y1, true_and]
        (repeat' split) <;> omega
      · have e1 : sg q j (2 * h - 1) = 0 := by unfold sg; rw [if_neg (by omega), if_neg (by omega)]; rfl
        have e2 : sg q j (2 * h + 1) = 1 := by unfold sg; rw [if_pos (by omega), if_neg (by omega)]; rfl
        have hj1 : rq q j (2 * h + 1) := by unfold rq inR; omega
        have ho := (hG j hj _ _ h2 hj1 h0 hj0 (fun u v k1 k2 k3 => by rcases k1 with rfl | rfl <;> omega)).iff.1
        rw [e1, e2]
        simp only [ho, y1, true_and]
        (repeat' split) <;> omega
    · rw [if_neg (show ¬ ((q j).y = h ∧ xAt a b (2 * h) < ((q j).x : Rat)) from fun k => y1 k.1)]
      by_cases y2 : (q (j + 1)).y = h
      · have ex : ((q (j + 1)).x : Rat) = xq q j (2 * h) := by rw [← y2, P.xhi hj]
        rw [ex]
        have hj0 : rq q j (2 * h) := by unfold rq inR; omega
        rcases (show (q j).y < h ∨ h < (q j).y by omega) with y3 | y3
        · have e1 : sg q j (2 * h - 1) = 1 := by unfold sg; rw [if_pos (by omega), if_neg (by omega)]; rfl
          have e2 : sg q j (2 * h + 1) = 0 := by unfold sg; rw [if_pos (by omega), if_pos (by omega)]; rfl
          have hj1 : rq q j (2 * h - 1) := by unfold rq inR; omega
          have ho := (hG j hj _ _ h1 hj1 h0 hj0 (fun u v k1 k2 k3 => by rcases k1 with rfl | rfl <;> omega)).iff.1
          rw [e1, e2]
          simp only [ho, y2, true_and]
          (repeat' split) <;> omega
        · have e1 : sg q j (2 * h - 1) = 0 := by unfold sg; rw [if_neg (by omega), if_neg (by omega)]; rfl
          have e2 : sg q j (2 * h + 1) = -1 := by unfold sg; rw [if_neg (by omega), if_pos (by omega)]; rfl
          have hj1 : rq q j (2 * h + 1) := by unfold rq inR; omega
          have ho := (hG j hj _ _ h2 hj1 h0 hj0 (fun u v k1 k2 k3 => by rcases k1 with rfl | rfl <;> omega)).iff.1
          rw [e1, e2]
          simp only [ho, y2, true_and]
          (repeat' split) <;> omega
      · rw [if_neg (show ¬ ((q (j + 1)).y = h ∧ xAt a b (2 * h) < ((q (j + 1)).x : Rat)) from fun k => y2 k.1)]
        have es : sg q j (2 * h - 1) = sg q j (2 * h + 1) := by
          unfold sg
          repeat' split
          all_goals omega
        by_cases e0 : sg q j (2 * h + 1) = 0
        · rw [es, e0]; simp
        · have hr : ((q j).y < h ∧ h < (q (j + 1)).y) ∨ ((q (j + 1)).y < h ∧ h < (q j).y) := by
            unfold sg at e0
            split at e0 <;> split at e0 <;> omega
          have ho := (hG j hj _ _ h1 (show rq q j (2 * h - 1) by unfold rq inR; omega) h2 (show rq q j (2 * h + 1) by unfold rq inR; omega) (fun u v k1 k2 k3 => by omega)).iff.1
          rw [es]
          simp only [ho]
          omega
theorem Poly.levels2 {lo hi : Int} (hlh : (a.y = lo ∧ b.y = hi) ∨ (b.y = lo ∧ a.y = hi)) : ∀ (d : Nat) (k : Int), lo ≤ k → k + d < hi → rr q n (xAt a b (2 * k + 1)) (2 * k + 1) = rr q n (xAt a b (2 * (k + d) + 1)) (2 * (k + d) + 1)
  | 0, k, _, _ => by rw [show k + ((0 : Nat) : Int) = k by omega]
  | d + 1, k, h1, h2 => by
    rw [Poly.levels2 hlh d k h1 (by omega)]
    have := Poly.level2 P hab hF (h := k + d + 1) (by omega)
    rw [show 2 * (k + d + 1) - 1 = 2 * (k + d) + 1 by omega, show 2 * (k + (d : Int) + 1) + 1 = 2 * (k + ((d + 1 : Nat) : Int)) + 1 by omega] at this
    exact this
theorem Poly.beside {k l : Int} (h1 : inR a b (2 * k + 1)) (h2 : inR a b (2 * l + 1)) : rr q n (xAt a b (2 * k + 1)) (2 * k + 1) = rr q n (xAt a b (2 * l + 1)) (2 * l + 1) := by
  have hlh : ∃ lo hi : Int, ((a.y = lo ∧ b.y = hi) ∨ (b.y = lo ∧ a.y = hi)) ∧ lo ≤ k ∧ k < hi ∧ lo ≤ l ∧ l < hi := by
    unfold inR at h1 h2
    rcases Int.lt_or_gt_of_ne hab with h | h
    · exact ⟨a.y, b.y, .inl ⟨rfl, rfl⟩, by omega, by omega, by omega, by omega⟩
    · exact ⟨b.y, a.y, .inr ⟨rfl, rfl⟩, by omega, by omega, by omega, by omega⟩
  obtain ⟨lo, hi, hlh, k1, k2, l1, l2⟩ := hlh
  rcases Int.le_total k l with h | h
  · have := Poly.levels2 P hab hF hlh (l - k).toNat k k1 (by omega)
    rw [show k + ((l - k).toNat : Int) = l by omega] at this
    exact this
  · have := Poly.levels2 P hab hF hlh (k - l).toNat l l1 (by omega)
    rw [show l + ((k - l).toNat : Int) = k by omega] at this
    exact this.symm
end
end Go.Proofs.YtklcaphkfdlipaaGreatDoor

/- The sense of a ring; edges that fit keep their order; the edges of a normal ring. -/
set_option linter.unusedSimpArgs false
set_option linter.unusedVariables false
namespace Go.Proofs.YtklcaphkfdlipaaGreatDoor
open Go.RowKit
section
variable {n : Nat} {q : Nat → Pt} (P : Poly n q)
include P
/-- Which way a ring turns, told by the sign of its area. -/
theorem Poly.turned : ∃ C : Int, (∀ i, i < n → ∀ k, sg q i (2 * k + 1) ≠ 0 → ww q n i (2 * k + 1) = C) ∧ ((C = 1 ∧ 0 < sumZ (fun i => ((q i).x + (q (i + 1)).x) * ((q (i + 1)).y - (q i).y)) n) ∨ (C = 0 ∧ sumZ (fun i => ((q i).x + (q (i + 1)).x) * ((q (i + 1)).y - (q i).y)) n < 0)) := by
  have h3 := P.n3
  obtain ⟨C, hC⟩ := P.around
  have hstep : ∀ k : Int, sumQ (fun i => pq q i (k + 1)) n = sumQ (fun i => pq q i k) n + 2 * sumQ (fun j => (sg q j (2 * k + 1) : Rat) * xq q j (2 * k + 1)) n := fun k => by
    rw [← sumQ_mul]
    exact sumQ_add fun i _ => pq_step q i k
  have hlo : sumQ (fun i => pq q i (-5000000)) n = 0 := sumQ_zero fun i _ => by
    unfold pq
    rw [Int.min_eq_right (P.bd i).1, Int.min_eq_right (P.bd (i + 1)).1]
    grind
  have hhi : sumQ (fun i => pq q i 5000000) n = ((sumZ (fun i => ((q i).x + (q (i + 1)).x) * ((q (i + 1)).y - (q i).y)) n : Int) : Rat) := sumQ_cast fun i hi => by
    unfold pq fq
    rw [Int.min_eq_left (P.bd i).2, Int.min_eq_left (P.bd (i + 1)).2]
    have e := bet_mul (P.step hi)
    simp only [Rat.intCast_mul, Rat.intCast_add, Rat.intCast_sub] at e ⊢
    have z2 : ((2 : Int) : Rat) = 2 := rfl
    rw [z2] at e ⊢
    grind
  have hcr : ∀ k : Int, (∀ i, i < n → sg q i (2 * k + 1) = 0) ∨ ∃ i, i < n ∧ sg q i (2 * k + 1) ≠ 0 := fun k => by
    by_cases h : ∃ i, i < n ∧ sg q i (2 * k + 1) ≠ 0
    · exact .inr h
    · left
      intro i hi
      by_cases h2 : sg q i (2 * k + 1) = 0
      · exact h2
      · exact absurd ⟨i, hi, h2⟩ h
  have hz : ∀ k : Int, (∀ i, i < n → sg q i (2 * k + 1) = 0) → sumQ (fun j => (sg q j (2 * k + 1) : Rat) * xq q j (2 * k + 1)) n = 0 := fun k h => sumQ_zero fun i hi => by
    rw [h i hi]
    show (0 : Rat) * _ = 0
    exact Rat.zero_mul _
  obtain ⟨k0, _, c0, _, _⟩ := P.corner (i := 0) (by omega)
  have b0 := P.bd 0
  have b1 := P.bd (0 + 1)
  have hk : -5000000 ≤ k0 ∧ k0 < 5000000 := by
    unfold sg at c0
    split at c0 <;> split at c0 <;> omega
  have hx0 := P.cross hC k0 ⟨0, by omega, c0⟩
  refine ⟨C, hC, ?_⟩
  generalize sumZ (fun i => ((q i).x + (q (i + 1)).x) * ((q (i + 1)).y - (q i).y)) n = A at *
  have hpos : ∀ s : Rat, (∀ k : Int, 0 ≤ s * sumQ (fun j => (sg q j (2 * k + 1) : Rat) * xq q j (2 * k + 1)) n) → 0 < s * sumQ (fun j => (sg q j (2 * k0 + 1) : Rat) * xq q j (2 * k0 + 1)) n → 0 < s * (A : Rat) := fun s h1 h2 => by
    have := rise (fun d => s * sumQ (fun i => pq q i (-5000000 + (d : Int))) n) (by
      show s * sumQ (fun i => pq q i (-5000000 + ((0 : Nat) : Int))) n = 0
      rw [show (-5000000 + ((0 : Nat) : Int)) = -5000000 by omega, hlo, Rat.mul_zero]) (fun d => by
      show s * sumQ (fun i => pq q i (-5000000 + (d : Int))) n ≤ s * sumQ (fun i => pq q i (-5000000 + ((d + 1 : Nat) : Int))) n
      rw [show (-5000000 + ((d + 1 : Nat) : Int)) = (-5000000 + (d : Int)) + 1 by omega, hstep]
      have := h1 (-5000000 + (d : Int))
      grind) (d0 := (k0 + 5000000).toNat) (D := 10000000) (by
      show s * sumQ (fun i => pq q i (-5000000 + ((k0 + 5000000).toNat : Int))) n < s * sumQ (fun i => pq q i (-5000000 + (((k0 + 5000000).toNat + 1 : Nat) : Int))) n
      rw [show (-5000000 + (((k0 + 5000000).toNat + 1 : Nat) : Int)) = k0 + 1 by omega, show (-5000000 + ((k0 + 5000000).toNat : Int)) = k0 by omega, hstep]
      grind) (by omega)
    have e : (fun d : Nat => s * sumQ (fun i => pq q i (-5000000 + (d : Int))) n) 10000000 = s * sumQ (fun i => pq q i 5000000) n := by
      show s * sumQ (fun i => pq q i (-5000000 + ((10000000 : Nat) : Int))) n = _
      rw [show (-5000000 + ((10000000 : Nat) : Int)) = 5000000 by omega]
    replace e := e
    dsimp only at this e
    rw [e, hhi] at this
    exact this
  rcases hx0 with ⟨rfl, h⟩ | ⟨rfl, h⟩
  · left
    have := hpos 1 (fun k => by
      rw [Rat.one_mul]
      rcases hcr k with h1 | h1
      · rw [hz k h1]; exact Rat.le_refl
      · rcases P.cross hC k h1 with ⟨_, h2⟩ | ⟨h2, _⟩
        · exact Rat.le_of_lt h2
        · omega) (by rw [Rat.one_mul]; exact h)
    rw [Rat.one_mul] at this
    exact ⟨rfl, by exact_mod_cast this⟩
  · right
    have := hpos (-1) (fun k => by
      rcases hcr k with h1 | h1
      · rw [hz k h1]; grind
      · rcases P.cross hC k h1 with ⟨h2, _⟩ | ⟨_, h2⟩
        · omega
        · grind) (by grind)
    have h5 : (A : Rat) < 0 := by grind
    exact ⟨rfl, by exact_mod_cast h5⟩
end
/-- The edges of the normal ring, and which way they go. -/
theorem edge_nrmS {L : List Pt} (h3 : 3 ≤ L.length) (k : Nat) (hk : k < L.length) : ∃ i, i < L.length ∧ (0 < areaZ L → cor (nrm L) i = cor L k ∧ cor (nrm L) (i + 1) = cor L (k + 1)) ∧ (¬ 0 < areaZ L → cor (nrm L) i = cor L (k + 1) ∧ cor (nrm L) (i + 1) = cor L k) := by
  have hb := bestTo_le L L.length
  have hc : ∀ j, j < L.length → cor (nrm L) j = if 0 < areaZ L then cor L (bestTo L L.length + j) else cor L (bestTo L L.length + L.length - j) := fun j hj => by
    rw [cor_get (by rw [nrm_len]; exact hj)]
    simp [nrm]
  have h1 : ∀ i, i < L.length → cor (nrm L) (i + 1) = if 0 < areaZ L then cor L (bestTo L L.length + (i + 1)) else cor L (bestTo L L.length + L.length - (i + 1)) := fun i hi => by
    rcases (show i + 1 < L.length ∨ i + 1 = L.length by omega) with h | h
    · exact hc _ h
    · have e : cor (nrm L) (i + 1) = cor (nrm L) 0 := by
        have := cor_per' (nrm L) 0
        rw [nrm_len, Nat.zero_add] at this
        rw [h, this]
      rw [e, hc 0 (by omega), h]
      by_cases hp : 0 < areaZ L
      · rw [if_pos hp, if_pos hp, Nat.add_zero, cor_per']
      · rw [if_neg hp, if_neg hp, Nat.sub_zero, cor_per', Nat.add_sub_cancel]
  by_cases hp : 0 < areaZ L
  · rcases (show bestTo L L.length ≤ k ∨ k < bestTo L L.length by omega) with h | h
    · refine ⟨k - bestTo L L.length, by omega, fun _ => ?_, fun h => absurd hp h⟩
      rw [hc _ (by omega), h1 _ (by omega), if_pos hp, if_pos hp, show bestTo L L.length + (k - bestTo L L.length) = k by omega, show bestTo L L.length + (k - bestTo L L.length + 1) = k + 1 by omega]
      exact ⟨rfl, rfl⟩
    · refine ⟨k + L.length - bestTo L L.length, by omega, fun _ => ?_, fun h => absurd hp h⟩
      rw [hc _ (by omega), h1 _ (by omega), if_pos hp, if_pos hp, show bestTo L L.length + (k + L.length - bestTo L L.length) = k + L.length by omega, show bestTo L L.length + (k + L.length - bestTo L L.length + 1) = k + 1 + L.length by omega, cor_per', cor_per']
      exact ⟨rfl, rfl⟩
  · rcases (show k + 1 ≤ bestTo L L.length ∨ bestTo L L.length < k + 1 by omega) with h | h
    · refine ⟨bestTo L L.length - (k + 1), by omega, fun h => absurd h hp, fun _ => ?_⟩
      rw [hc _ (by omega), h1 _ (by omega), if_neg hp, if_neg hp, show bestTo L L.length + L.length - (bestTo L L.length - (k + 1)) = k + 1 + L.length by omega, show bestTo L L.length + L.length - (bestTo L L.length - (k + 1) + 1) = k + L.length by omega, cor_per', cor_per']
      exact ⟨rfl, rfl⟩
    · refine ⟨bestTo L L.length + L.length - (k + 1), by omega, fun h => absurd h hp, fun _ => ?_⟩
      rw [hc _ (by omega), h1 _ (by omega), if_neg hp, if_neg hp, show bestTo L L.length + L.length - (bestTo L L.length + L.length - (k + 1)) = k + 1 by omega, show bestTo L L.length + L.length - (bestTo L L.length + L.length - (k + 1) + 1) = k by omega]
      exact ⟨rfl, rfl⟩
theorem shr_ne {a b : Pt} (ha : SmPt a) (hb : SmPt b) (h : a ≠ b) : (shr a).y ≠ (shr b).y := fun e => h (shr_inj ha hb e)
theorem SmPt.bx {p : Pt} (h : SmPt p) : Bx p := ⟨by have := h.x1; omega, by have := h.x2; omega, by have := h.y1; omega, by have := h.y2; omega⟩
theorem fits_share {v a b : Pt} (hv : SmPt v) (ha : SmPt a) (hb : SmPt b) (va : v ≠ a) (vb : v ≠ b) (h1 : isOnB v a b = false) (h2 : isOnB v b a = false) : Fits (shr v) (shr a) (shr v) (shr b) := by
  have na := shr_ne hv ha va
  have nb := shr_ne hv hb vb
  intro S T s1 s2 t1 t2 hh
  obtain ⟨hS, hT⟩ := hh (shr v) (shr v) (.inl rfl) (.inl rfl) rfl
  by_cases ht : turnZ v a b = 0
  · exfalso
    have k1 : ¬ (((shr v).y ≤ (shr b).y ∧ (shr b).y ≤ (shr a).y) ∨ ((shr a).y ≤ (shr b).y ∧ (shr b).y ≤ (shr v).y)) := fun h => by
      rw [on_of hv ha hb ht h] at h1; cases h1
    have k2 : ¬ (((shr v).y ≤ (shr a).y ∧ (shr a).y ≤ (shr b).y) ∨ ((shr b).y ≤ (shr a).y ∧ (shr a).y ≤ (shr v).y)) := fun h => by
      rw [on_of hv hb ha (by unfold turnZ at ht ⊢; grind) h] at h2; cases h2
    unfold inR at s1 s2
    omega
  · have ht2 : turnZ a v b = -turnZ v a b := by unfold turnZ; grind
    have := ord_adj (a := shr a) (b := shr v) (d := shr b) (by rw [turn_shr]; omega) na.symm nb (inR_comm s1) s2 (inR_comm t1) t2 hS hT
    rw [xAt_comm na, xAt_comm na]
    exact this
/-- Edges that may lie on a map together keep their order. -/
theorem fits_of {e f : Ed} (h1 : SmPt e.p) (h2 : SmPt e.q) (h3 : SmPt f.p) (h4 : SmPt f.q) (he : e.p ≠ e.q) (hf : f.p ≠ f.q) (h : fitB e f = true) (hn : ¬ (e.p = f.q ∧ e.q = f.p)) : Fits (shr e.p) (shr e.q) (shr f.p) (shr f.q) := by
  obtain ⟨a, b⟩ := e
  obtain ⟨c, d⟩ := f
  simp only at *
  unfold fitB at h
  simp only at h
  rw [if_neg hn] at h
  have nab := shr_ne h1 h2 he
  have ncd := shr_ne h3 h4 hf
  by_cases e0 : a = c ∧ b = d
  · rw [if_pos e0] at h; cases h
  rw [if_neg e0] at h
  by_cases e1 : a = c
  · subst e1
    rw [if_pos rfl] at h
    simp only [Bool.and_eq_true, Bool.not_eq_true'] at h
    exact fits_share h1 h2 h4 he hf h.1 h.2
  rw [if_neg e1] at h
  by_cases e2 : a = d
  · subst e2
    rw [if_pos rfl] at h
    simp only [Bool.and_eq_true, Bool.not_eq_true'] at h
    exact (fits_share h1 h2 h3 he hf.symm h.1 h.2).rev2 ncd.symm
  rw [if_neg e2] at h
  by_cases e3 : b = c
  · subst e3
    rw [if_pos rfl] at h
    simp only [Bool.and_eq_true, Bool.not_eq_true'] at h
    exact (fits_share h2 h1 h4 he.symm hf h.1 h.2).rev nab.symm
  rw [if_neg e3] at h
  by_cases e4 : b = d
  · subst e4
    rw [if_pos rfl] at h
    simp only [Bool.and_eq_true, Bool.not_eq_true'] at h
    exact ((fits_share h2 h1 h3 he.symm hf.symm h.1 h.2).rev nab.symm).rev2 ncd.symm
  rw [if_neg e4] at h
  have hx : crossB a b c d = false := by simpa using h
  exact fun S T s1 s2 t1 t2 _ => ord_far (far_of h1 h2 h3 h4 hx) nab ncd s1 s2 t1 t2
theorem min_of {Q : Nat → Prop} {f : Nat → Rat} : ∀ N : Nat, (∃ i, i < N ∧ Q i) → ∃ i, i < N ∧ Q i ∧ ∀ j, j < N → Q j → f i ≤ f j
  | 0, ⟨i, h, _⟩ => absurd h (by omega)
  | N + 1, h => by
    by_cases h2 : ∃ i, i < N ∧ Q i
    · obtain ⟨i, h3, h4, h5⟩ := min_of (f := f) N h2
      by_cases hN : Q N ∧ f N < f i
      · refine ⟨N, by omega, hN.1, fun j hj hq => ?_⟩
        rcases (show j < N ∨ j = N by omega) with h6 | rfl
        · have := h5 j h6 hq
          have := hN.2
          grind
        · exact Rat.le_refl
      · refine ⟨i, by omega, h4, fun j hj hq => ?_⟩
        rcases (show j < N ∨ j = N by omega) with h6 | rfl
        · exact h5 j h6 hq
        · have : ¬ f j < f i := fun h => hN ⟨hq, h⟩
          grind
    · obtain ⟨i, h3, h4⟩ := h
      have hiN : i = N := by
        rcases (show i < N ∨ i = N by omega) with h5 | h5
        · exact absurd ⟨i, h5, h4⟩ h2
        · exact h5
      subst hiN
      refine ⟨i, by omega, h4, fun j hj hq => ?_⟩
      rcases (show j < i ∨ j = i by omega) with h6 | rfl
      · exact absurd ⟨j, h6, hq⟩ h2
      · exact Rat.le_refl
theorem sumZ_some {f : Nat → Int} : ∀ {n : Nat}, sumZ f n % 2 ≠ 0 → ∃ i, i < n ∧ f i ≠ 0
  | 0, h => absurd rfl h
  | n + 1, h => by
    by_cases h1 : f n = 0
    · obtain ⟨i, h2, h3⟩ := sumZ_some (n := n) (f := f) (by simp only [sumZ] at h; rw [h1] at h; simpa using h)
      exact ⟨i, by omega, h3⟩
    · exact ⟨n, by omega, h1⟩
end Go.Proofs.YtklcaphkfdlipaaGreatDoor

/- No point lies inside of two rings of a map. -/
set_option linter.unusedSimpArgs false
set_option linter.unusedVariables false
namespace Go.Proofs.YtklcaphkfdlipaaGreatDoor
open Go.RowKit
/-- The same edge, one way or the other. -/
def Same (a b c d : Pt) : Prop := (a = c ∧ b = d) ∨ (a = d ∧ b = c)
theorem half {n m : Nat} {q r : Nat → Pt} (P : Poly n q) (Q : Poly m r) {C D : Int} (hC : ∀ i, i < n → ∀ k, sg q i (2 * k + 1) ≠ 0 → ww q n i (2 * k + 1) = C) (hD : ∀ i, i < m → ∀ k, sg r i (2 * k + 1) ≠ 0 → ww r m i (2 * k + 1) = D) (hC1 : C = 0 ∨ C = 1) (hD1 : D = 0 ∨ D = 1) {p : Pt}
    (injA : ∀ i j, (q i).y = (q j).y → q i = q j) (injB : ∀ i j, (r i).y = (r j).y → r i = r j) (injAB : ∀ i j, (q i).y = (r j).y → q i = r j)
    (offA : ∀ j, j < n → rq q j (2 * p.y) → xq q j (2 * p.y) ≠ (p.x : Rat)) (offB : ∀ j, j < m → rq r j (2 * p.y) → xq r j (2 * p.y) ≠ (p.x : Rat)) (oddA : rp q n p % 2 ≠ 0) (oddB : rp r m p % 2 ≠ 0)
    (hF : ∀ i, i < n → ∀ j, j < m → ¬ Same (q i) (q (i + 1)) (r j) (r (j + 1)) → Fits (q i) (q (i + 1)) (r j) (r (j + 1)))
    (hS : ∀ i, i < n → ∀ j, j < m → ∀ T, Same (q i) (q (i + 1)) (r j) (r (j + 1)) → sg q i T = 2 * C - 1 → sg r j T = 2 * D - 1 → False)
    (hM : ∀ i, i < n → (∀ j, j < m → Fits (q i) (q (i + 1)) (r j) (r (j + 1))) → (∀ l, inR (q i) (q (i + 1)) (2 * l + 1) → rr r m (xq q i (2 * l + 1)) (2 * l + 1) % 2 ≠ 0) → False)
    {i : Nat} (hi : i < n) (hs : sg q i (2 * p.y + 1) ≠ 0) (hx : (p.x : Rat) < xq q i (2 * p.y))
    (minA : ∀ j, j < n → sg q j (2 * p.y + 1) ≠ 0 → (p.x : Rat) < xq q j (2 * p.y) → xq q i (2 * p.y + 1) ≤ xq q j (2 * p.y + 1))
    (minB : ∀ j, j < m → sg r j (2 * p.y + 1) ≠ 0 → (p.x : Rat) < xq r j (2 * p.y) → xq q i (2 * p.y + 1) ≤ xq r j (2 * p.y + 1)) : False := by
  have hst := P.step hi
  obtain ⟨i1, i2⟩ := sg_in hs
  have e1 := P.first injA offA hi hs hx minA
  have e2 := hC i hi p.y hs
  have hsg : sg q i (2 * p.y + 1) = 2 * C - 1 := by
    unfold ww at e2
    have hb : sg q i (2 * p.y + 1) = 1 ∨ sg q i (2 * p.y + 1) = -1 := by
      unfold sg at hs ⊢
      split at hs <;> split at hs <;> omega
    rcases hb with hb | hb
    · rw [if_pos hb] at e2; omega
    · rw [if_neg (by omega)] at e2; omega
  by_cases hsh : ∃ j, j < m ∧ Same (q i) (q (i + 1)) (r j) (r (j + 1))
  · obtain ⟨j, hj, hsame⟩ := hsh
    have ex : ∀ T, xq r j T = xq q i T := fun T => by
      unfold xq
      rcases hsame with ⟨h1, h2⟩ | ⟨h1, h2⟩
      · rw [h1, h2]
      · rw [h1, h2]; exact xAt_comm (Q.step hj) T
    have es : sg r j (2 * p.y + 1) ≠ 0 := by
      unfold sg at hs ⊢
      rcases hsame with ⟨h1, h2⟩ | ⟨h1, h2⟩
      · rw [← h1, ← h2]; exact hs
      · rw [← h1, ← h2]; omega
    have f1 := Q.first injB offB hj es (by rw [ex]; exact hx) (fun k hk k1 k2 => by rw [ex]; exact minB k hk k1 k2)
    have f2 := hD j hj p.y es
    refine hS i hi j hj _ hsame hsg ?_
    unfold ww at f2
    have hb : sg r j (2 * p.y + 1) = 1 ∨ sg r j (2 * p.y + 1) = -1 := by
      unfold sg at es ⊢
      split at es <;> split at es <;> omega
    rcases hb with hb | hb
    · rw [if_pos hb] at f2; omega
    · rw [if_neg (by omega)] at f2; omega
  · have hFj : ∀ j, j < m → Fits (q i) (q (i + 1)) (r j) (r (j + 1)) := fun j hj => hF i hi j hj fun h => hsh ⟨j, hj, h⟩
    have g1 := Q.other hst hFj (fun u j hu e => by rcases hu with rfl | rfl <;> exact injAB _ _ e) offB i1 i2 hx minB
    refine hM i hi hFj fun l hl => ?_
    have g2 := Q.beside hst hFj i2 hl
    have g3 : rr r m (xq q i (2 * l + 1)) (2 * l + 1) = rp r m p := by rw [g1]; exact g2.symm
    rw [g3]
    exact oddB
theorem bet_dbl {c d : Pt} (h : c.y ≠ d.y) : bet ⟨2 * c.x, 2 * c.y⟩ ⟨2 * d.x, 2 * d.y⟩ = bet c d := by
  have e1 := bet_mul h
  have e2 := bet_mul (a := ⟨2 * c.x, 2 * c.y⟩) (b := ⟨2 * d.x, 2 * d.y⟩) (by dsimp only; omega)
  have hne := castsub_ne h
  generalize bet c d = u at *
  generalize bet (⟨2 * c.x, 2 * c.y⟩ : Pt) ⟨2 * d.x, 2 * d.y⟩ = v at *
  simp only [Rat.intCast_sub, Rat.intCast_mul] at *
  have z2 : ((2 : Int) : Rat) = 2 := rfl
  rw [z2] at *
  have e3 : (u - v) * ((d.y : Rat) - (c.y : Rat)) = 0 := by grind
  rcases Rat.mul_eq_zero.1 e3 with h | h
  · grind
  · exact absurd h hne
theorem xAt_dbl {c d : Pt} (h : c.y ≠ d.y) (M : Int) : xAt ⟨2 * c.x, 2 * c.y⟩ ⟨2 * d.x, 2 * d.y⟩ (2 * M) = 2 * xAt c d M := by
  unfold xAt
  rw [bet_dbl h]
  simp only [Rat.intCast_sub, Rat.intCast_mul]
  have z2 : ((2 : Int) : Rat) = 2 := rfl
  rw [z2]
  grind
theorem xAt_mid {a b : Pt} (h : a.y ≠ b.y) : ((a.x + b.x : Int) : Rat) = 2 * xAt a b (a.y + b.y) := by
  have e := bet_mul h
  unfold xAt
  simp only [Rat.intCast_sub, Rat.intCast_mul, Rat.intCast_add] at *
  have z2 : ((2 : Int) : Rat) = 2 := rfl
  rw [z2] at *
  grind
/-- The winding beside the middle of an edge, in the doubled plane. -/
theorem Poly.mid {m : Nat} {r : Nat → Pt} (Q : Poly m r) {a b : Pt} (hab : a.y ≠ b.y) (hF : ∀ j, j < m → Fits a b (r j) (r (j + 1))) :
    ∃ l, inR a b (2 * l + 1) ∧ rp (fun j => ⟨2 * (r j).x, 2 * (r j).y⟩) m ⟨a.x + b.x, a.y + b.y⟩ = rr r m (xAt a b (2 * l + 1)) (2 * l + 1) := by
  have hmid := xAt_mid hab
  have hlt : ∀ j, j < m → ((((a.x + b.x : Int) : Rat) < xAt ⟨2 * (r j).x, 2 * (r j).y⟩ ⟨2 * (r (j + 1)).x, 2 * (r (j + 1)).y⟩ (2 * (a.y + b.y))) ↔ xAt a b (a.y + b.y) < xq r j (a.y + b.y)) := fun j hj => by
    rw [xAt_dbl (Q.step hj), hmid]
    unfold xq
    constructor <;> intro h <;> grind
  rcases (show (∃ l, a.y + b.y = 2 * l + 1) ∨ ∃ l, a.y + b.y = 2 * l from by
    rcases Int.emod_two_eq (a.y + b.y) with h | h
    · exact .inr ⟨(a.y + b.y) / 2, by omega⟩
    · exact .inl ⟨(a.y + b.y) / 2, by omega⟩) with ⟨l, hl⟩ | ⟨l, hl⟩
  · refine ⟨l, by unfold inR; omega, ?_⟩
    unfold rp rr
    refine sumZ_same fun j hj => ?_
    have h1 := hlt j hj
    unfold tmE
    dsimp only
    rw [hl] at h1 ⊢
    by_cases h2 : xAt a b (2 * l + 1) < xq r j (2 * l + 1)
    · rw [if_pos h2, if_pos (h1.2 h2)]
      unfold sg
      (repeat' split) <;> omega
    · rw [if_neg h2, if_neg (fun h => h2 (h1.1 h))]
  · have hin : inR a b (2 * l) := by unfold inR; omega
    have hin1 : inR a b (2 * l + 1) := by unfold inR; omega
    refine ⟨l, hin1, ?_⟩
    unfold rp rr
    refine sumZ_same fun j hj => ?_
    have h1 := hlt j hj
    unfold tmE
    dsimp only
    rw [hl] at h1 ⊢
    by_cases h0 : sg r j (2 * l + 1) = 0
    · rw [h0]
      have e0 : ((if 2 * (2 * (r j).y) < 2 * (2 * l) + 1 then 1 else 0) - (if 2 * (2 * (r (j + 1)).y) < 2 * (2 * l) + 1 then 1 else 0) : Int) = 0 := by
        unfold sg at h0
        (repeat' split at h0) <;> (repeat' split) <;> omega
      rw [e0]; simp
    · obtain ⟨k1, k2⟩ := sg_in h0
      have h3 := (hF j hj _ _ hin k1 hin1 k2 fun u v hu hv e => by rcases hu with rfl | rfl <;> omega).iff.1
      have h4 : xAt a b (2 * l) < xq r j (2 * l) ↔ xAt a b (2 * l + 1) < xq r j (2 * l + 1) := h3
      by_cases h2 : xAt a b (2 * l + 1) < xq r j (2 * l + 1)
      · rw [if_pos h2, if_pos (h1.2 (h4.2 h2))]
        unfold sg
        (repeat' split) <;> omega
      · rw [if_neg h2, if_neg (fun h => h2 (h4.1 (h1.1 h)))]
theorem cor_map {f : Pt → Pt} {L : List Pt} (h : 0 < L.length) (i : Nat) : cor (L.map f) i = f (cor L i) := by
  have hm := Nat.mod_lt i h
  unfold cor
  rw [List.length_map, List.getD_eq_getElem?_getD, List.getD_eq_getElem?_getD, List.getElem?_map, List.getElem?_eq_getElem hm]
  rfl
theorem cor_next {L : List Pt} (h : RingP L) (h3 : 3 ≤ L.length) {i : Nat} (hi : i < L.length) : cor L i ≠ cor L (i + 1) := fun e => by
  rcases (show i + 1 < L.length ∨ i + 1 = L.length by omega) with h1 | h1
  · exact h.apart (i + 1) i (by omega) h1 e.symm
  · have e0 := cor_per' L 0
    rw [Nat.zero_add] at e0
    rw [h1, e0] at e
    exact h.apart i 0 (by omega) hi e
/-- What is asked of a ring. -/
structure RgD (L : List Pt) (C : Int) : Prop where
  P : Poly L.length (crn L)
  sm : ∀ i, SmPt (cor L i)
  wC : ∀ i, i < L.length → ∀ k, sg (crn L) i (2 * k + 1) ≠ 0 → ww (crn L) L.length i (2 * k + 1) = C
  C1 : (C = 1 ∧ 0 < areaZ L) ∨ (C = 0 ∧ areaZ L < 0)
  nx : ∀ i, i < L.length → cor L i ≠ cor L (i + 1)
theorem ringB_D {L : List Pt} (h : ringB L = true) : ∃ C, RgD L C := by
  have h3 := (ringB_sizes h).1
  have hs := ringB_sm h
  have P : Poly L.length (crn L) := (ringB_ringP h).poly h3 hs
  obtain ⟨C, hC, h1⟩ := P.turned
  refine ⟨C, P, hs, hC, ?_, fun i hi => cor_next (ringB_ringP h) h3 hi⟩
  have e := sumZ_tel (f := fun i => ((crn L i).x + (crn L (i + 1)).x) * ((crn L (i + 1)).y - (crn L i).y)) (g := fun i => 4001 * ((cor L i).x * (cor L (i + 1)).y - (cor L i).y * (cor L (i + 1)).x))
    (c := fun i => 4001 * ((cor L i).x * (cor L i).y) + (cor L i).x * (cor L i).x) (n := L.length) fun i _ => by
      simp only [crn, shr]
      grind
  have m : ∀ (f : Nat → Int) n, sumZ (fun i => 4001 * f i) n = 4001 * sumZ f n := fun f n => by
    induction n with
    | zero => rfl
    | succ n ih => simp only [sumZ]; rw [ih]; omega
  rw [m, show cor L L.length = cor L 0 from cor_per L 0] at e
  have e2 : sumZ (fun i => ((crn L i).x + (crn L (i + 1)).x) * ((crn L (i + 1)).y - (crn L i).y)) L.length = 4001 * areaZ L := by
    unfold areaZ
    omega
  rw [e2] at h1
  omega
theorem RgD.inj {A B : List Pt} {C D : Int} (hA : RgD A C) (hB : RgD B D) (i j : Nat) (h : (crn A i).y = (crn B j).y) : crn A i = crn B j := by
  unfold crn at h ⊢
  rw [shr_inj (hA.sm i) (hB.sm j) h]
theorem RgD.off {A : List Pt} {C : Int} (hA : RgD A C) {p : Pt} (hp : SmPt p) (h : ∀ i, i < A.length → onAt A p i = false) (j : Nat) (hj : j < A.length) (hr : rq (crn A) j (2 * (shr p).y)) : xq (crn A) j (2 * (shr p).y) ≠ ((shr p).x : Rat) := fun e => by
  have h1 := h j hj
  have ht := turn_zero (p := shr p) (hA.P.step hj) (by unfold xq at e; rw [e]; grind)
  unfold crn at ht
  rw [turn_shr] at ht
  unfold rq inR crn at hr
  unfold onAt at h1
  rw [on_of (hA.sm j) (hA.sm (j + 1)) hp (by omega) (by omega)] at h1
  cases h1
/-- The edge of the normal ring that goes with an edge. -/
theorem RgD.nedge {A : List Pt} {C : Int} (h3 : 3 ≤ A.length) (hA : RgD A C) {i : Nat} (hi : i < A.length) : ∃ e ∈ edg A, (C = 1 ∧ e = ⟨cor A i, cor A (i + 1)⟩) ∨ (C = 0 ∧ e = ⟨cor A (i + 1), cor A i⟩) := by
  obtain ⟨k, hk, h1, h2⟩ := edge_nrmS h3 i hi
  refine ⟨_, List.mem_map.2 ⟨k, List.mem_range.2 hk, rfl⟩, ?_⟩
  rcases hA.C1 with ⟨c, hp⟩ | ⟨c, hp⟩
  · have := h1 hp
    exact .inl ⟨c, by rw [this.1, this.2]⟩
  · have := h2 (by omega)
    exact .inr ⟨c, by rw [this.1, this.2]⟩
theorem fits_ring {A B : List Pt} {C D : Int} (hA3 : 3 ≤ A.length) (hB3 : 3 ≤ B.length) (hA : RgD A C) (hB : RgD B D) (hT : ∀ e ∈ edg A, ∀ f ∈ edg B, fitB e f = true) {i j : Nat} (hi : i < A.length) (hj : j < B.length) (hn : ¬ Same (crn A i) (crn A (i + 1)) (crn B j) (crn B (j + 1))) :
    Fits (crn A i) (crn A (i + 1)) (crn B j) (crn B (j + 1)) := by
  obtain ⟨e, he, he1⟩ := hA.nedge hA3 hi
  obtain ⟨f, hf, hf1⟩ := hB.nedge hB3 hj
  have hfit := hT e he f hf
  have nA := hA.nx i hi
  have nB := hB.nx j hj
  have hs : ∀ {a b c d : Pt}, Same (shr a) (shr b) (shr c) (shr d) ↔ Same (shr a) (shr b) (shr c) (shr d) := Iff.rfl
  unfold Same crn at hn
  rcases he1 with ⟨-, rfl⟩ | ⟨-, rfl⟩ <;> rcases hf1 with ⟨-, rfl⟩ | ⟨-, rfl⟩
  · exact fits_of (hA.sm _) (hA.sm _) (hB.sm _) (hB.sm _) nA nB hfit fun h => hn (.inr ⟨congrArg shr h.1, congrArg shr h.2⟩)
  · exact (fits_of (hA.sm _) (hA.sm _) (hB.sm _) (hB.sm _) nA nB.symm hfit fun h => hn (.inl ⟨congrArg shr h.1, congrArg shr h.2⟩)).rev2 (shr_ne (hB.sm _) (hB.sm _) nB.symm)
  · exact (fits_of (hA.sm _) (hA.sm _) (hB.sm _) (hB.sm _) nA.symm nB hfit fun h => hn (.inl ⟨congrArg shr h.2, congrArg shr h.1⟩)).rev (shr_ne (hA.sm _) (hA.sm _) nA.symm)
  · exact ((fits_of (hA.sm _) (hA.sm _) (hB.sm _) (hB.sm _) nA.symm nB.symm hfit fun h => hn (.inr ⟨congrArg shr h.2, congrArg shr h.1⟩)).rev (shr_ne (hA.sm _) (hA.sm _) nA.symm)).rev2 (shr_ne (hB.sm _) (hB.sm _) nB.symm)
theorem fit_self {a b : Pt} (h : a ≠ b) : fitB ⟨a, b⟩ ⟨a, b⟩ = false := by
  unfold fitB
  simp only
  rw [if_neg (fun h2 => h h2.1), if_pos ⟨trivial, trivial⟩]
/-- Two edges that are the same cannot both go up in their normal rings. -/
theorem same_ring {A B : List Pt} {C D : Int} (hA3 : 3 ≤ A.length) (hB3 : 3 ≤ B.length) (hA : RgD A C) (hB : RgD B D) (hT : ∀ e ∈ edg A, ∀ f ∈ edg B, fitB e f = true) {i j : Nat} (hi : i < A.length) (hj : j < B.length) {T : Int} (hn : Same (crn A i) (crn A (i + 1)) (crn B j) (crn B (j + 1)))
    (h1 : sg (crn A) i T = 2 * C - 1) (h2 : sg (crn B) j T = 2 * D - 1) : False := by
  obtain ⟨e, he, he1⟩ := hA.nedge hA3 hi
  obtain ⟨f, hf, hf1⟩ := hB.nedge hB3 hj
  have hfit := hT e he f hf
  have nA := hA.nx i hi
  have hu : ∀ {a b : Pt} {i j : Nat}, crn A i = crn B j → cor A i = cor B j := fun {a b i j} h => shr_inj (hA.sm _) (hB.sm _) (congrArg Pt.y h)
  have hn2 : (cor A i = cor B j ∧ cor A (i + 1) = cor B (j + 1)) ∨ (cor A i = cor B (j + 1) ∧ cor A (i + 1) = cor B j) := by
    rcases hn with ⟨k1, k2⟩ | ⟨k1, k2⟩
    · exact .inl ⟨hu (a := cor A i) (b := cor A i) k1, hu (a := cor A i) (b := cor A i) k2⟩
    · exact .inr ⟨hu (a := cor A i) (b := cor A i) k1, hu (a := cor A i) (b := cor A i) k2⟩
  unfold sg at h1 h2
  have hy : (crn A i).y ≠ (crn A (i + 1)).y := hA.P.step hi
  rcases hn2 with ⟨k1, k2⟩ | ⟨k1, k2⟩
  · have c1 : crn B j = crn A i := by unfold crn; rw [k1]
    have c2 : crn B (j + 1) = crn A (i + 1) := by unfold crn; rw [k2]
    rw [c1, c2] at h2
    have hCD : C = D := by omega
    subst hCD
    rw [k1, k2] at he1 nA
    rcases he1 with ⟨c, rfl⟩ | ⟨c, rfl⟩ <;> rcases hf1 with ⟨c', rfl⟩ | ⟨c', rfl⟩
    · rw [fit_self nA] at hfit; cases hfit
    · omega
    · omega
    · rw [fit_self nA.symm] at hfit; cases hfit
  · have c1 : crn B (j + 1) = crn A i := by unfold crn; rw [k1]
    have c2 : crn B j = crn A (i + 1) := by unfold crn; rw [k2]
    rw [c1, c2] at h2
    rw [k1, k2] at he1 nA
    rcases he1 with ⟨c, rfl⟩ | ⟨c, rfl⟩ <;> rcases hf1 with ⟨c', rfl⟩ | ⟨c', rfl⟩
    · omega
    · rw [fit_self nA] at hfit; cases hfit
    · rw [fit_self nA.symm] at hfit; cases hfit
    · omega
/-- The middle of an edge of one ring that fits all edges of another one does not lie inside of it. -/
theorem mid_ring {A B : List Pt} {C D : Int} (hA3 : 3 ≤ A.length) (hB3 : 3 ≤ B.length) (hA : RgD A C) (hB : RgD B D) (hM : ∀ e ∈ edg A, midIn sideZ B e = false) {i : Nat} (hi : i < A.length) (hF : ∀ j, j < B.length → Fits (crn A i) (crn A (i + 1)) (crn B j) (crn B (j + 1)))
    (h : ∀ l, inR (crn A i) (crn A (i + 1)) (2 * l + 1) → rr (crn B) B.length (xq (crn A) i (2 * l + 1)) (2 * l + 1) % 2 ≠ 0) : False := by
  obtain ⟨e, he, he1⟩ := hA.nedge hA3 hi
  have hm := hM e he
  have hm2 : midIn sideZ B ⟨cor A i, cor A (i + 1)⟩ = false := by
    rcases he1 with ⟨-, rfl⟩ | ⟨-, rfl⟩
    · exact hm
    · rw [mid_comm]; exact hm
  unfold midIn at hm2
  rw [decide_eq_false_iff_not] at hm2
  refine hm2 ?_
  have hst := hA.P.step hi
  have hB0 : 0 < B.length := by omega
  have hdl : (dbl B).length = B.length := by simp [dbl]
  have hdc : ∀ j, cor (dbl B) j = ⟨2 * (cor B j).x, 2 * (cor B j).y⟩ := fun j => cor_map hB0 j
  have hsA := hA.sm i
  have hsA' := hA.sm (i + 1)
  have hbx : ∀ j, Bx (cor (dbl B) j) := fun j => by
    rw [hdc]
    have := hB.sm j
    exact ⟨by have := this.x1; dsimp only; omega, by have := this.x2; dsimp only; omega, by have := this.y1; dsimp only; omega, by have := this.y2; dsimp only; omega⟩
  have hpx : Bx ⟨(cor A i).x + (cor A (i + 1)).x, (cor A i).y + (cor A (i + 1)).y⟩ :=
    ⟨by have := hsA.x1; have := hsA'.x1; dsimp only; omega, by have := hsA.x2; have := hsA'.x2; dsimp only; omega, by have := hsA.y1; have := hsA'.y1; dsimp only; omega, by have := hsA.y2; have := hsA'.y2; dsimp only; omega⟩
  have hcd : ∀ j, crn (dbl B) j = ⟨2 * (crn B j).x, 2 * (crn B j).y⟩ := fun j => by
    unfold crn
    rw [hdc]
    simp only [shr]
    exact Pt.ext' rfl (by dsimp only; omega)
  have hsp : shr ⟨(cor A i).x + (cor A (i + 1)).x, (cor A i).y + (cor A (i + 1)).y⟩ = ⟨(crn A i).x + (crn A (i + 1)).x, (crn A i).y + (crn A (i + 1)).y⟩ := by
    simp only [crn, shr]
    exact Pt.ext' rfl (by dsimp only; omega)
  refine (sideZ_par hbx hpx fun j hj => ?_).2 ⟨fun j hj => ?_, ?_⟩
  · rw [hdc, hdc]
    intro e
    injection e with e1 e2
    exact hB.nx j (by omega) (Pt.ext' (by omega) (by omega))
  · rw [Bool.eq_false_iff]
    intro hon
    unfold onAt at hon
    rw [hdl] at hj
    obtain ⟨o1, o2⟩ := on_back (hbx j) (hbx (j + 1)) hpx hon
    have hstB := hB.P.step hj
    have t0 : turnZ (crn (dbl B) j) (crn (dbl B) (j + 1)) (shr ⟨(cor A i).x + (cor A (i + 1)).x, (cor A i).y + (cor A (i + 1)).y⟩) = 0 := by unfold crn; rw [turn_shr, o1]; rfl
    change ((crn (dbl B) j).y ≤ _ ∧ _ ≤ (crn (dbl B) (j + 1)).y) ∨ ((crn (dbl B) (j + 1)).y ≤ _ ∧ _ ≤ (crn (dbl B) j).y) at o2
    rw [hsp] at o2 t0
    rw [hcd, hcd] at o2 t0
    dsimp only at o2
    have hin : inR (crn B j) (crn B (j + 1)) ((crn A i).y + (crn A (i + 1)).y) := by unfold inR; omega
    have hinA : inR (crn A i) (crn A (i + 1)) ((crn A i).y + (crn A (i + 1)).y) := by unfold inR; omega
    have hne := (hF j hj _ _ hinA hin hinA hin fun u v hu hv e => by rcases hu with rfl | rfl <;> omega).iff.2.1
    have e1 := xAt_turn (a := ⟨2 * (crn B j).x, 2 * (crn B j).y⟩) (b := ⟨2 * (crn B (j + 1)).x, 2 * (crn B (j + 1)).y⟩) (by dsimp only; omega) ⟨(crn A i).x + (crn A (i + 1)).x, (crn A i).y + (crn A (i + 1)).y⟩
    rw [t0] at e1
    have hd := castsub_ne (m := 2 * (crn B j).y) (n := 2 * (crn B (j + 1)).y) (by omega)
    have z0 : ((0 : Int) : Rat) = 0 := rfl
    rw [z0] at e1
    dsimp only at e1
    rcases Rat.mul_eq_zero.1 e1.symm with k | k
    · exact hd k
    · rw [xAt_dbl hstB, xAt_mid hst] at k
      exact hne (by grind)
  · rw [hdl, hsp]
    obtain ⟨l, hl, e⟩ := hB.P.mid hst hF
    have hfun : crn (dbl B) = fun j => ⟨2 * (crn B j).x, 2 * (crn B j).y⟩ := funext hcd
    rw [hfun, e]
    exact h l hl
/-- No point lies inside of two rings of a map. -/
theorem one_in {A B : List Pt} (hA : ringB A = true) (hB : ringB B = true) (hT : togB sideZ A B = true) {p : Pt} (hp : SmPt p) (h1 : 0 < sideZ A p) (h2 : 0 < sideZ B p) : False := by
  have hA3 := (ringB_sizes hA).1
  have hB3 := (ringB_sizes hB).1
  obtain ⟨C, dA⟩ := ringB_D hA
  obtain ⟨D, dB⟩ := ringB_D hB
  unfold togB at hT
  simp only [List.all_eq_true, Bool.and_eq_true, Bool.not_eq_true'] at hT
  have hfit : ∀ e ∈ edg A, ∀ f ∈ edg B, fitB e f = true := fun e he f hf => ((hT e he).2 f hf).1
  have hfit2 : ∀ f ∈ edg B, ∀ e ∈ edg A, fitB e f = true := fun f hf e he => ((hT e he).2 f hf).1
  have hmA : ∀ e ∈ edg A, midIn sideZ B e = false := fun e he => (hT e he).1
  have hmB : ∀ f ∈ edg B, midIn sideZ A f = false := fun f hf => by
    have hne : ∃ e, e ∈ edg A := by
      match h : edg A with
      | [] => have := edg_len A; rw [h] at this; simp at this; omega
      | e :: _ => exact ⟨e, by simp⟩
    obtain ⟨e, he⟩ := hne
    exact ((hT e he).2 f hf).2
  obtain ⟨onA, oA⟩ := (sideZ_par (fun i => (dA.sm i).bx) hp.bx dA.nx).1 h1
  obtain ⟨onB, oB⟩ := (sideZ_par (fun i => (dB.sm i).bx) hp.bx dB.nx).1 h2
  have offA := dA.off hp onA
  have offB := dB.off hp onB
  have C1 : C = 0 ∨ C = 1 := by have := dA.C1; omega
  have D1 : D = 0 ∨ D = 1 := by have := dB.C1; omega
  have hex : ∀ {L : List Pt}, rp (crn L) L.length (shr p) % 2 ≠ 0 → ∃ i, i < L.length ∧ (sg (crn L) i (2 * (shr p).y + 1) ≠ 0 ∧ ((shr p).x : Rat) < xq (crn L) i (2 * (shr p).y)) := fun {L} h => by
    rw [rp_eq] at h
    obtain ⟨i, hi, hne⟩ := sumZ_some h
    refine ⟨i, hi, ?_⟩
    by_cases hx : ((shr p).x : Rat) < xq (crn L) i (2 * (shr p).y)
    · rw [if_pos hx] at hne; exact ⟨hne, hx⟩
    · rw [if_neg hx] at hne; exact absurd rfl hne
  obtain ⟨i, hi, ⟨si, xi⟩, mi⟩ := min_of (f := fun i => xq (crn A) i (2 * (shr p).y + 1)) _ (hex oA)
  obtain ⟨j, hj, ⟨sj, xj⟩, mj⟩ := min_of (f := fun i => xq (crn B) i (2 * (shr p).y + 1)) _ (hex oB)
  rcases Rat.le_total (a := xq (crn A) i (2 * (shr p).y + 1)) (b := xq (crn B) j (2 * (shr p).y + 1)) with hle | hle
  · exact half dA.P dB.P dA.wC dB.wC C1 D1 (dA.inj dA) (dB.inj dB) (dA.inj dB) offA offB oA oB (fun i hi j hj hn => fits_ring hA3 hB3 dA dB hfit hi hj hn) (fun i hi j hj T hn k1 k2 => same_ring hA3 hB3 dA dB hfit hi hj hn k1 k2)
      (fun i hi hF h => mid_ring hA3 hB3 dA dB hmA hi hF h) hi si xi (fun k hk k1 k2 => mi k hk ⟨k1, k2⟩) (fun k hk k1 k2 => Rat.le_trans hle (mj k hk ⟨k1, k2⟩))
  · have sym : ∀ {a b c d : Pt}, Same a b c d → Same c d a b := fun {a b c d} h => by
      rcases h with ⟨k1, k2⟩ | ⟨k1, k2⟩
      · exact .inl ⟨k1.symm, k2.symm⟩
      · exact .inr ⟨k2.symm, k1.symm⟩
    exact half dB.P dA.P dB.wC dA.wC D1 C1 (dB.inj dB) (dA.inj dA) (dB.inj dA) offB offA oB oA (fun i hi j hj hn => (fits_ring hA3 hB3 dA dB hfit hj hi fun h => hn (sym h)).swap) (fun i hi j hj T hn k1 k2 => same_ring hA3 hB3 dA dB hfit hj hi (sym hn) k2 k1)
      (fun i hi hF h => mid_ring hB3 hA3 dB dA hmB hi hF h) hj sj xj (fun k hk k1 k2 => mj k hk ⟨k1, k2⟩) (fun k hk k1 k2 => Rat.le_trans hle (mi k hk ⟨k1, k2⟩))
end Go.Proofs.YtklcaphkfdlipaaGreatDoor
