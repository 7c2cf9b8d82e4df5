import Derived.Test.YtklcaphkfdlipaaGreatDoorPackVj
/- A ring (a closed way that does not meet itself) has an area that is not nothing: by the winding beside its edges, level by level in a sheared plane. -/
set_option linter.unusedSimpArgs false
set_option linter.unusedVariables false
namespace Go.Proofs.YtklcaphkfdlipaaGreatDoor
open Go.RowKit
/-- Half the slope against the height, doubled. -/
def bet (a b : Pt) : Rat := ((b.x - a.x : Int) : Rat) / ((2 * (b.y - a.y) : Int) : Rat)
/-- Where the line through two points is at half a height. -/
def xAt (a b : Pt) (T : Int) : Rat := (a.x : Rat) + bet a b * ((T - 2 * a.y : Int) : Rat)
theorem bet_mul {a b : Pt} (h : a.y ≠ b.y) : bet a b * ((2 * (b.y - a.y) : Int) : Rat) = ((b.x - a.x : Int) : Rat) := by
  unfold bet
  refine Rat.div_mul_cancel ?_
  intro h2
  have : (2 * (b.y - a.y) : Int) = 0 := by exact_mod_cast h2
  omega
theorem xAt_lo (a b : Pt) : xAt a b (2 * a.y) = (a.x : Rat) := by
  unfold xAt
  have : (2 * a.y - 2 * a.y : Int) = 0 := by omega
  rw [this]
  show (a.x : Rat) + bet a b * 0 = _
  rw [Rat.mul_zero, Rat.add_zero]
theorem xAt_hi {a b : Pt} (h : a.y ≠ b.y) : xAt a b (2 * b.y) = (b.x : Rat) := by
  unfold xAt
  have e : (2 * b.y - 2 * a.y : Int) = 2 * (b.y - a.y) := by omega
  rw [e, bet_mul h, Rat.intCast_sub]
  grind
theorem xAt_turn {a b : Pt} (h : a.y ≠ b.y) (p : Pt) : ((turnZ a b p : Int) : Rat) = ((b.y - a.y : Int) : Rat) * (xAt a b (2 * p.y) - (p.x : Rat)) := by
  have e := bet_mul h
  unfold turnZ xAt
  simp only [Rat.intCast_sub, Rat.intCast_mul] at e ⊢
  have e2 : ((2 : Int) : Rat) = 2 := rfl
  rw [e2] at e ⊢
  grind
theorem xAt_aff (a b : Pt) : ∃ u v : Rat, ∀ T : Int, xAt a b T = u + v * (T : Rat) := by
  refine ⟨(a.x : Rat) - bet a b * ((2 * a.y : Int) : Rat), bet a b, fun T => ?_⟩
  unfold xAt
  rw [Rat.intCast_sub]
  grind
def oppQ (u v : Rat) : Prop := (u < 0 ∧ 0 < v) ∨ (v < 0 ∧ 0 < u)
def oppZ (u v : Int) : Prop := (u < 0 ∧ 0 < v) ∨ (v < 0 ∧ 0 < u)
def sameQ (u v : Rat) : Prop := (0 < u ∧ 0 < v) ∨ (u < 0 ∧ v < 0)
theorem aff_up {u v : Rat} {S T : Int} (hv : 0 ≤ v) (h : S ≤ T) : u + v * (S : Rat) ≤ u + v * (T : Rat) := by
  have h1 : (S : Rat) ≤ (T : Rat) := by exact_mod_cast h
  have := Rat.mul_le_mul_of_nonneg_left h1 hv
  grind
/-- A difference of two lines keeps its sign where both edges are. -/
theorem ord_up (u v : Rat) (p q r s S T : Int) (hpq : p < q) (hrs : r < s) (s1 : 2 * p ≤ S) (s2 : S ≤ 2 * q) (s3 : 2 * r ≤ S) (s4 : S ≤ 2 * s) (t1 : 2 * p ≤ T) (t2 : T ≤ 2 * q) (t3 : 2 * r ≤ T) (t4 : T ≤ 2 * s)
    (np : r ≤ p → p ≤ s → u + v * ((2 * p : Int) : Rat) ≠ 0) (nq : r ≤ q → q ≤ s → u + v * ((2 * q : Int) : Rat) ≠ 0) (nr : p ≤ r → r ≤ q → u + v * ((2 * r : Int) : Rat) ≠ 0) (ns : p ≤ s → s ≤ q → u + v * ((2 * s : Int) : Rat) ≠ 0)
    (hX : ¬ (oppQ (u + v * ((2 * p : Int) : Rat)) (u + v * ((2 * q : Int) : Rat)) ∧ oppQ (u + v * ((2 * r : Int) : Rat)) (u + v * ((2 * s : Int) : Rat)))) : sameQ (u + v * (S : Rat)) (u + v * (T : Rat)) := by
  have key : ∀ (u v : Rat) (S T : Int), 2 * p ≤ S → S ≤ 2 * q → 2 * r ≤ S → S ≤ 2 * s → 2 * p ≤ T → T ≤ 2 * q → 2 * r ≤ T → T ≤ 2 * s →
      (r ≤ p → p ≤ s → u + v * ((2 * p : Int) : Rat) ≠ 0) → (r ≤ q → q ≤ s → u + v * ((2 * q : Int) : Rat) ≠ 0) → (p ≤ r → r ≤ q → u + v * ((2 * r : Int) : Rat) ≠ 0) → (p ≤ s → s ≤ q → u + v * ((2 * s : Int) : Rat) ≠ 0) →
      ¬ (oppQ (u + v * ((2 * p : Int) : Rat)) (u + v * ((2 * q : Int) : Rat)) ∧ oppQ (u + v * ((2 * r : Int) : Rat)) (u + v * ((2 * s : Int) : Rat))) →
      0 ≤ v → u + v * (S : Rat) ≤ 0 → 0 ≤ u + v * (T : Rat) → False := by
    intro u v S T s1 s2 s3 s4 t1 t2 t3 t4 np nq nr ns hX hv hS hT
    have lp := aff_up (u := u) hv s1
    have lr := aff_up (u := u) hv s3
    have lq := aff_up (u := u) hv t2
    have ls := aff_up (u := u) hv t4
    have hlo : u + v * ((2 * p : Int) : Rat) < 0 ∧ u + v * ((2 * r : Int) : Rat) < 0 := by
      rcases Int.le_total p r with h | h
      · have h1 := nr h (by omega)
        have h2 := aff_up (u := u) hv (show 2 * p ≤ 2 * r by omega)
        constructor <;> grind
      · have h1 := np h (by omega)
        have h2 := aff_up (u := u) hv (show 2 * r ≤ 2 * p by omega)
        constructor <;> grind
    have hhi : 0 < u + v * ((2 * q : Int) : Rat) ∧ 0 < u + v * ((2 * s : Int) : Rat) := by
      rcases Int.le_total q s with h | h
      · have h1 := nq (by omega) h
        have h2 := aff_up (u := u) hv (show 2 * q ≤ 2 * s by omega)
        constructor <;> grind
      · have h1 := ns (by omega) h
        have h2 := aff_up (u := u) hv (show 2 * s ≤ 2 * q by omega)
        constructor <;> grind
    exact hX ⟨.inl ⟨hlo.1, hhi.1⟩, .inl ⟨hlo.2, hhi.2⟩⟩
  have hX' : ¬ (oppQ (-u + -v * ((2 * p : Int) : Rat)) (-u + -v * ((2 * q : Int) : Rat)) ∧ oppQ (-u + -v * ((2 * r : Int) : Rat)) (-u + -v * ((2 * s : Int) : Rat))) := by
    intro h
    refine hX ?_
    unfold oppQ at h ⊢
    grind
  have np' : r ≤ p → p ≤ s → -u + -v * ((2 * p : Int) : Rat) ≠ 0 := fun h1 h2 h3 => np h1 h2 (by grind)
  have nq' : r ≤ q → q ≤ s → -u + -v * ((2 * q : Int) : Rat) ≠ 0 := fun h1 h2 h3 => nq h1 h2 (by grind)
  have nr' : p ≤ r → r ≤ q → -u + -v * ((2 * r : Int) : Rat) ≠ 0 := fun h1 h2 h3 => nr h1 h2 (by grind)
  have ns' : p ≤ s → s ≤ q → -u + -v * ((2 * s : Int) : Rat) ≠ 0 := fun h1 h2 h3 => ns h1 h2 (by grind)
  have k1 := key u v S T s1 s2 s3 s4 t1 t2 t3 t4 np nq nr ns hX
  have k2 := key u v T S t1 t2 t3 t4 s1 s2 s3 s4 np nq nr ns hX
  have k3 := key (-u) (-v) S T s1 s2 s3 s4 t1 t2 t3 t4 np' nq' nr' ns' hX'
  have k4 := key (-u) (-v) T S t1 t2 t3 t4 s1 s2 s3 s4 np' nq' nr' ns' hX'
  clear key np nq nr ns hX np' nq' nr' ns' hX'
  unfold sameQ
  by_cases hv : 0 ≤ v
  · replace k1 := k1 hv
    replace k2 := k2 hv
    clear k3 k4
    generalize u + v * (S : Rat) = A at *
    generalize u + v * (T : Rat) = B at *
    by_cases h1 : 0 < A <;> by_cases h2 : 0 < B <;> by_cases h3 : A < 0 <;> by_cases h4 : B < 0 <;> grind
  · replace k3 := k3 (by grind)
    replace k4 := k4 (by grind)
    clear k1 k2
    have e1 : -u + -v * (S : Rat) = -(u + v * (S : Rat)) := by grind
    have e2 : -u + -v * (T : Rat) = -(u + v * (T : Rat)) := by grind
    rw [e1, e2] at k3 k4
    generalize u + v * (S : Rat) = A at *
    generalize u + v * (T : Rat) = B at *
    by_cases h1 : 0 < A <;> by_cases h2 : 0 < B <;> by_cases h3 : A < 0 <;> by_cases h4 : B < 0 <;> grind
/-- Two edges apart, heights as in a sheared plane. -/
structure Far (a b c d : Pt) : Prop where
  c1 : turnZ a b c = 0 → ¬ ((a.y ≤ c.y ∧ c.y ≤ b.y) ∨ (b.y ≤ c.y ∧ c.y ≤ a.y))
  d1 : turnZ a b d = 0 → ¬ ((a.y ≤ d.y ∧ d.y ≤ b.y) ∨ (b.y ≤ d.y ∧ d.y ≤ a.y))
  a1 : turnZ c d a = 0 → ¬ ((c.y ≤ a.y ∧ a.y ≤ d.y) ∨ (d.y ≤ a.y ∧ a.y ≤ c.y))
  b1 : turnZ c d b = 0 → ¬ ((c.y ≤ b.y ∧ b.y ≤ d.y) ∨ (d.y ≤ b.y ∧ b.y ≤ c.y))
  x : ¬ (oppZ (turnZ a b c) (turnZ a b d) ∧ oppZ (turnZ c d a) (turnZ c d b))
def inR (a b : Pt) (T : Int) : Prop := (2 * a.y ≤ T ∧ T ≤ 2 * b.y) ∨ (2 * b.y ≤ T ∧ T ≤ 2 * a.y)
theorem opp_turn {D A B : Rat} {t1 t2 : Int} (h : D ≠ 0) (h1 : (t1 : Rat) = D * A) (h2 : (t2 : Rat) = D * B) (ho : oppQ A B) : oppZ t1 t2 := by
  have p1 : ∀ {t : Int}, 0 < (t : Rat) → 0 < t := fun h => by exact_mod_cast h
  have p2 : ∀ {t : Int}, (t : Rat) < 0 → t < 0 := fun h => by exact_mod_cast h
  have m1 : ∀ {x y : Rat}, 0 < x → 0 < y → 0 < x * y := fun h1 h2 => Rat.mul_pos h1 h2
  have m2 : ∀ {x y : Rat}, 0 < x → y < 0 → x * y < 0 := fun {x y} h1 h2 => by have := m1 h1 (show 0 < -y by grind); rw [Rat.mul_neg] at this; grind
  rcases (show 0 < D ∨ D < 0 by grind) with hD | hD
  · rcases ho with ⟨h3, h4⟩ | ⟨h3, h4⟩
    · exact .inl ⟨p2 (by rw [h1]; exact m2 hD h3), p1 (by rw [h2]; exact m1 hD h4)⟩
    · exact .inr ⟨p2 (by rw [h2]; exact m2 hD h3), p1 (by rw [h1]; exact m1 hD h4)⟩
  · have hD' : 0 < -D := by grind
    rcases ho with ⟨h3, h4⟩ | ⟨h3, h4⟩
    · exact .inr ⟨p2 (by rw [h2]; have := m1 hD' h4; grind), p1 (by rw [h1]; have := m2 hD' h3; grind)⟩
    · exact .inl ⟨p2 (by rw [h1]; have := m1 hD' h4; grind), p1 (by rw [h2]; have := m2 hD' h3; grind)⟩
theorem castsub_ne {m n : Int} (h : m ≠ n) : ((n - m : Int) : Rat) ≠ 0 := by
  intro h2
  have : (n - m : Int) = 0 := by exact_mod_cast h2
  omega
theorem turn_zero {a b p : Pt} (h : a.y ≠ b.y) (h2 : xAt a b (2 * p.y) - (p.x : Rat) = 0) : turnZ a b p = 0 := by
  have := xAt_turn h p
  rw [h2, Rat.mul_zero] at this
  exact_mod_cast this
theorem ord_far {a b c d : Pt} (h : Far a b c d) (hab : a.y ≠ b.y) (hcd : c.y ≠ d.y) {S T : Int} (s1 : inR a b S) (s2 : inR c d S) (t1 : inR a b T) (t2 : inR c d T) : sameQ (xAt c d S - xAt a b S) (xAt c d T - xAt a b T) := by
  obtain ⟨u, v, hu⟩ := xAt_aff a b
  obtain ⟨u', v', hu'⟩ := xAt_aff c d
  have eD : ∀ T : Int, xAt c d T - xAt a b T = (u' - u) + (v' - v) * (T : Rat) := fun T => by rw [hu, hu']; grind
  have fa : (u' - u) + (v' - v) * ((2 * a.y : Int) : Rat) = xAt c d (2 * a.y) - (a.x : Rat) := by rw [← eD, xAt_lo]
  have fb : (u' - u) + (v' - v) * ((2 * b.y : Int) : Rat) = xAt c d (2 * b.y) - (b.x : Rat) := by rw [← eD, xAt_hi hab]
  have fc : (u' - u) + (v' - v) * ((2 * c.y : Int) : Rat) = -(xAt a b (2 * c.y) - (c.x : Rat)) := by rw [← eD, xAt_lo]; grind
  have fd : (u' - u) + (v' - v) * ((2 * d.y : Int) : Rat) = -(xAt a b (2 * d.y) - (d.x : Rat)) := by rw [← eD, xAt_hi hcd]; grind
  have na := fun (h0 : (u' - u) + (v' - v) * ((2 * a.y : Int) : Rat) = 0) => h.a1 (turn_zero hcd (by rw [← fa]; exact h0))
  have nb := fun (h0 : (u' - u) + (v' - v) * ((2 * b.y : Int) : Rat) = 0) => h.b1 (turn_zero hcd (by rw [← fb]; exact h0))
  have nc := fun (h0 : (u' - u) + (v' - v) * ((2 * c.y : Int) : Rat) = 0) => h.c1 (turn_zero hab (by grind))
  have nd := fun (h0 : (u' - u) + (v' - v) * ((2 * d.y : Int) : Rat) = 0) => h.d1 (turn_zero hab (by grind))
  have hx : ¬ (oppQ ((u' - u) + (v' - v) * ((2 * a.y : Int) : Rat)) ((u' - u) + (v' - v) * ((2 * b.y : Int) : Rat)) ∧ oppQ ((u' - u) + (v' - v) * ((2 * c.y : Int) : Rat)) ((u' - u) + (v' - v) * ((2 * d.y : Int) : Rat))) := by
    rintro ⟨o1, o2⟩
    refine h.x ⟨?_, ?_⟩
    · rw [fc, fd] at o2
      refine opp_turn (castsub_ne hab) (xAt_turn hab c) (xAt_turn hab d) ?_
      unfold oppQ at o2 ⊢
      grind
    · rw [fa, fb] at o1
      exact opp_turn (castsub_ne hcd) (xAt_turn hcd a) (xAt_turn hcd b) o1
  rw [eD, eD]
  unfold inR at s1 s2 t1 t2
  have oc : ∀ {x y : Rat}, oppQ x y → oppQ y x := fun h => h.symm
  rcases Int.lt_or_gt_of_ne hab with h1 | h1 <;> rcases Int.lt_or_gt_of_ne hcd with h2 | h2
  · exact ord_up _ _ a.y b.y c.y d.y S T h1 h2 (by omega) (by omega) (by omega) (by omega) (by omega) (by omega) (by omega) (by omega) (fun k1 k2 k3 => na k3 (by omega)) (fun k1 k2 k3 => nb k3 (by omega)) (fun k1 k2 k3 => nc k3 (by omega)) (fun k1 k2 k3 => nd k3 (by omega)) hx
  · exact ord_up _ _ a.y b.y d.y c.y S T h1 h2 (by omega) (by omega) (by omega) (by omega) (by omega) (by omega) (by omega) (by omega) (fun k1 k2 k3 => na k3 (by omega)) (fun k1 k2 k3 => nb k3 (by omega)) (fun k1 k2 k3 => nd k3 (by omega)) (fun k1 k2 k3 => nc k3 (by omega)) (fun k => hx ⟨k.1, oc k.2⟩)
  · exact ord_up _ _ b.y a.y c.y d.y S T h1 h2 (by omega) (by omega) (by omega) (by omega) (by omega) (by omega) (by omega) (by omega) (fun k1 k2 k3 => nb k3 (by omega)) (fun k1 k2 k3 => na k3 (by omega)) (fun k1 k2 k3 => nc k3 (by omega)) (fun k1 k2 k3 => nd k3 (by omega)) (fun k => hx ⟨oc k.1, k.2⟩)
  · exact ord_up _ _ b.y a.y d.y c.y S T h1 h2 (by omega) (by omega) (by omega) (by omega) (by omega) (by omega) (by omega) (by omega) (fun k1 k2 k3 => nb k3 (by omega)) (fun k1 k2 k3 => na k3 (by omega)) (fun k1 k2 k3 => nd k3 (by omega)) (fun k1 k2 k3 => nc k3 (by omega)) (fun k => hx ⟨oc k.1, oc k.2⟩)
/-- Edges that share a corner. -/
theorem ord_adj {a b d : Pt} (h : turnZ a b d ≠ 0) (hab : a.y ≠ b.y) (hbd : b.y ≠ d.y) {S T : Int} (s1 : inR a b S) (s2 : inR b d S) (t1 : inR a b T) (t2 : inR b d T) (hS : S ≠ 2 * b.y) (hT : T ≠ 2 * b.y) : sameQ (xAt b d S - xAt a b S) (xAt b d T - xAt a b T) := by
  obtain ⟨u, v, hu⟩ := xAt_aff a b
  obtain ⟨u', v', hu'⟩ := xAt_aff b d
  have eD : ∀ T : Int, xAt b d T - xAt a b T = (u' - u) + (v' - v) * (T : Rat) := fun T => by rw [hu, hu']; grind
  have f0 : (u' - u) + (v' - v) * ((2 * b.y : Int) : Rat) = 0 := by rw [← eD, xAt_lo, xAt_hi hab]; grind
  have f1 : (u' - u) + (v' - v) * ((2 * d.y : Int) : Rat) ≠ 0 := by
    rw [← eD, xAt_hi hbd]
    intro h0
    exact h (turn_zero hab (by grind))
  rw [eD, eD]
  generalize u' - u = p at *
  generalize v' - v = r at *
  have hr : r ≠ 0 := by
    rintro rfl
    grind
  have e : ∀ T : Int, p + r * (T : Rat) = r * ((T - 2 * b.y : Int) : Rat) := fun T => by rw [Rat.intCast_sub]; grind
  rw [e, e]
  have m1 : ∀ {x y : Rat}, 0 < x → 0 < y → 0 < x * y := fun h1 h2 => Rat.mul_pos h1 h2
  have c1 : ∀ {t : Int}, 0 < t → 0 < (t : Rat) := fun h => by exact_mod_cast h
  have c2 : ∀ {t : Int}, t < 0 → 0 < -(t : Rat) := fun {t} h => by
    have : (t : Rat) < 0 := by exact_mod_cast h
    grind
  have hside : (0 < S - 2 * b.y ∧ 0 < T - 2 * b.y) ∨ (S - 2 * b.y < 0 ∧ T - 2 * b.y < 0) := by
    unfold inR at s1 s2 t1 t2
    omega
  unfold sameQ
  rcases (show 0 < r ∨ 0 < -r by grind) with h1 | h1 <;> rcases hside with ⟨h2, h3⟩ | ⟨h2, h3⟩
  · exact .inl ⟨m1 h1 (c1 h2), m1 h1 (c1 h3)⟩
  · have := m1 h1 (c2 h2)
    have := m1 h1 (c2 h3)
    right; constructor <;> grind
  · have := m1 h1 (c1 h2)
    have := m1 h1 (c1 h3)
    right; constructor <;> grind
  · have := m1 h1 (c2 h2)
    have := m1 h1 (c2 h3)
    left; constructor <;> grind
theorem sameQ.neg {u v : Rat} (h : sameQ u v) : sameQ (-u) (-v) := by
  unfold sameQ at h ⊢
  grind
theorem sameQ.iff {a b c d : Rat} (h : sameQ (b - a) (d - c)) : (a < b ↔ c < d) ∧ a ≠ b ∧ c ≠ d := by
  unfold sameQ at h
  rcases h with ⟨h1, h2⟩ | ⟨h1, h2⟩
  · refine ⟨⟨fun _ => by grind, fun _ => by grind⟩, by grind, by grind⟩
  · refine ⟨⟨fun h => by grind, fun h => by grind⟩, by grind, by grind⟩
def sumZ (f : Nat → Int) : Nat → Int
  | 0 => 0
  | n + 1 => sumZ f n + f n
def sumQ (f : Nat → Rat) : Nat → Rat
  | 0 => 0
  | n + 1 => sumQ f n + f n
theorem sumZ_tel {f g c : Nat → Int} : ∀ {n : Nat}, (∀ i, i < n → f i = g i + (c (i + 1) - c i)) → sumZ f n = sumZ g n + (c n - c 0)
  | 0, _ => by simp [sumZ]
  | n + 1, h => by
    have h1 := sumZ_tel (n := n) fun i hi => h i (by omega)
    have h2 := h n (by omega)
    simp only [sumZ]
    omega
theorem sumZ_one {f g : Nat → Int} {k : Nat} {t : Int} : ∀ {n : Nat}, k < n → (∀ i, i < n → f i = g i + if i = k then t else 0) → sumZ f n = sumZ g n + t := by
  have key : ∀ n, (∀ i, i < n → f i = g i + if i = k then t else 0) → sumZ f n = sumZ g n + if k < n then t else 0 := by
    intro n
    induction n with
    | zero => intro _; simp [sumZ]
    | succ n ih =>
      intro h
      have h1 := ih fun i hi => h i (by omega)
      have h2 := h n (by omega)
      simp only [sumZ]
      by_cases e : n = k
      · subst e
        rw [if_pos rfl] at h2
        rw [if_neg (Nat.lt_irrefl _)] at h1
        rw [if_pos (Nat.lt_succ_self _)]
        omega
      · rw [if_neg e] at h2
        by_cases e2 : k < n
        · rw [if_pos e2] at h1
          rw [if_pos (by omega)]
          omega
        · rw [if_neg e2] at h1
          rw [if_neg (by omega)]
          omega
  intro n hk h
  rw [key n h, if_pos hk]
theorem sumQ_add {f g k : Nat → Rat} : ∀ {n : Nat}, (∀ i, i < n → f i = g i + k i) → sumQ f n = sumQ g n + sumQ k n
  | 0, _ => by simp only [sumQ]; grind
  | n + 1, h => by
    have h1 := sumQ_add (n := n) fun i hi => h i (by omega)
    have h2 := h n (by omega)
    simp only [sumQ]
    grind
theorem sumQ_zero {f : Nat → Rat} : ∀ {n : Nat}, (∀ i, i < n → f i = 0) → sumQ f n = 0
  | 0, _ => rfl
  | n + 1, h => by
    have h1 := sumQ_zero (n := n) fun i hi => h i (by omega)
    have h2 := h n (by omega)
    simp only [sumQ]
    grind
theorem sumQ_cast {f : Nat → Rat} {g : Nat → Int} : ∀ {n : Nat}, (∀ i, i < n → f i = (g i : Rat)) → sumQ f n = ((sumZ g n : Int) : Rat)
  | 0, _ => rfl
  | n + 1, h => by
    have h1 := sumQ_cast (n := n) fun i hi => h i (by omega)
    have h2 := h n (by omega)
    simp only [sumQ, sumZ, Rat.intCast_add]
    rw [h1, h2]
/-- A polygon whose corners lie at different heights. -/
structure Poly (n : Nat) (q : Nat → Pt) : Prop where
  n3 : 3 ≤ n
  per : q n = q 0
  per1 : q (n + 1) = q 1
  dis : ∀ i j, i < n → j < n → (q i).y = (q j).y → i = j
  adj : ∀ i, i < n → turnZ (q i) (q (i + 1)) (q (i + 2)) ≠ 0
  far : ∀ i j, i + 1 < j → j < n → ¬ (i = 0 ∧ j + 1 = n) → Far (q i) (q (i + 1)) (q j) (q (j + 1))
  bd : ∀ i, -5000000 ≤ (q i).y ∧ (q i).y ≤ 5000000
def xq (q : Nat → Pt) (i : Nat) (T : Int) : Rat := xAt (q i) (q (i + 1)) T
theorem xq_lo (q : Nat → Pt) (i : Nat) : xq q i (2 * (q i).y) = ((q i).x : Rat) := xAt_lo _ _
def rq (q : Nat → Pt) (i : Nat) (T : Int) : Prop := inR (q i) (q (i + 1)) T
def sg (q : Nat → Pt) (i : Nat) (T : Int) : Int := (if 2 * (q i).y < T then 1 else 0) - (if 2 * (q (i + 1)).y < T then 1 else 0)
def rr (q : Nat → Pt) (n : Nat) (z : Rat) (T : Int) : Int := sumZ (fun j => if z < xq q j T then sg q j T else 0) n
def ww (q : Nat → Pt) (n i : Nat) (T : Int) : Int := rr q n (xq q i T) T + if sg q i T = 1 then 1 else 0
section
variable {n : Nat} {q : Nat → Pt} (P : Poly n q)
include P
theorem Poly.step {i : Nat} (hi : i < n) : (q i).y ≠ (q (i + 1)).y := by
  intro h
  have h3 := P.n3
  rcases (show i + 1 < n ∨ i + 1 = n by omega) with h1 | h1
  · have := P.dis i (i + 1) hi h1 h
    omega
  · rw [h1, P.per] at h
    have := P.dis i 0 hi (by omega) h
    omega
theorem Poly.dis1 {i j : Nat} (hi : i < n) (h1 : i ≠ j + 1) (hj : j < n) (h0 : 0 < i) : (q i).y ≠ (q (j + 1)).y := by
  intro h
  rcases (show j + 1 < n ∨ j + 1 = n by omega) with h2 | h2
  · exact h1 (P.dis i (j + 1) hi h2 h)
  · rw [h2, P.per] at h
    have := P.dis i 0 hi (by omega) h
    omega
theorem Poly.ord {i j : Nat} (hi : i < n) (hj : j < n) (hij : i ≠ j) {S T : Int} (s1 : rq q i S) (s2 : rq q j S) (t1 : rq q i T) (t2 : rq q j T)
    (hv : ∀ m m', (m = i ∨ m = i + 1) → (m' = j ∨ m' = j + 1) → (q m).y = (q m').y → S ≠ 2 * (q m).y ∧ T ≠ 2 * (q m).y) : sameQ (xq q j S - xq q i S) (xq q j T - xq q i T) := by
  have key : ∀ i j : Nat, i < n → j < n → i < j → rq q i S → rq q j S → rq q i T → rq q j T → (∀ m m', (m = i ∨ m = i + 1) → (m' = j ∨ m' = j + 1) → (q m).y = (q m').y → S ≠ 2 * (q m).y ∧ T ≠ 2 * (q m).y) → sameQ (xq q j S - xq q i S) (xq q j T - xq q i T) := by
    intro i j hi hj hlt s1 s2 t1 t2 hv
    by_cases h1 : j = i + 1
    · subst h1
      have h2 := hv (i + 1) (i + 1) (.inr rfl) (.inl rfl) rfl
      exact ord_adj (P.adj i hi) (P.step hi) (P.step hj) s1 s2 t1 t2 h2.1 h2.2
    · by_cases h2 : i = 0 ∧ j + 1 = n
      · obtain ⟨rfl, h2⟩ := h2
        have h3 := hv 0 (j + 1) (.inl rfl) (.inr rfl) (by rw [h2, P.per])
        have e1 : q (j + 1) = q 0 := by rw [h2, P.per]
        have e2 : q (j + 2) = q 1 := by rw [show j + 2 = n + 1 by omega, P.per1]
        have h4 := P.adj j hj
        have h5 := P.step hj
        have h6 := P.step hi
        rw [e1, e2] at h4
        rw [e1] at h5
        unfold rq at s1 s2 t1 t2
        rw [e1] at s2 t2
        have h7 := (ord_adj h4 h5 h6 s2 s1 t2 t1 h3.1 h3.2).neg
        unfold xq
        rw [e1]
        have e3 : ∀ a b : Rat, -(a - b) = b - a := fun a b => by grind
        rw [e3, e3] at h7
        exact h7
      · exact ord_far (P.far i j (by omega) hj h2) (P.step hi) (P.step hj) s1 s2 t1 t2
  rcases Nat.lt_or_gt_of_ne hij with h | h
  · exact key i j hi hj h s1 s2 t1 t2 hv
  · have h7 := (key j i hj hi h s2 s1 t2 t1 fun m m' h1 h2 h3 => by have := hv m' m h2 h1 h3.symm; rw [h3]; exact this).neg
    have e3 : ∀ a b : Rat, -(a - b) = b - a := fun a b => by grind
    rw [e3, e3] at h7
    exact h7
theorem Poly.xhi {i : Nat} (hi : i < n) : xq q i (2 * (q (i + 1)).y) = ((q (i + 1)).x : Rat) := xAt_hi (P.step hi)
/-- The winding on both sides of an edge is the same at the next level. -/
theorem Poly.level {i : Nat} (hi : i < n) {h : Int} (c1 : sg q i (2 * h - 1) ≠ 0) (c2 : sg q i (2 * h + 1) ≠ 0) : ww q n i (2 * h - 1) = ww q n i (2 * h + 1) := by
  have hy : ((q i).y < h ∧ h < (q (i + 1)).y) ∨ ((q (i + 1)).y < h ∧ h < (q i).y) := by
    unfold sg at c1 c2
    split at c1 <;> split at c1 <;> split at c2 <;> split at c2 <;> omega
  have hs : sg q i (2 * h - 1) = sg q i (2 * h + 1) := by
    unfold sg
    repeat' split
    all_goals omega
  have h1 : rq q i (2 * h - 1) := by unfold rq inR; omega
  have h2 : rq q i (2 * h + 1) := by unfold rq inR; omega
  have h0 : rq q i (2 * h) := by unfold rq inR; omega
  have hR : rr q n (xq q i (2 * h - 1)) (2 * h - 1) = rr q n (xq q i (2 * h + 1)) (2 * h + 1) := by
    unfold rr
    rw [sumZ_tel (g := fun j => if xq q i (2 * h + 1) < xq q j (2 * h + 1) then sg q j (2 * h + 1) else 0) (c := fun j => if (q j).y = h ∧ xq q i (2 * h) < ((q j).x : Rat) then 1 else 0)]
    · simp only [P.per]; omega
    · intro j hj
      by_cases hji : j = i
      · subst hji
        rw [if_neg (Rat.lt_irrefl), if_neg (Rat.lt_irrefl), if_neg (by omega), if_neg (by omega)]
        rfl
      have hst := P.step hj
      by_cases y1 : (q j).y = h
      · have hc2 : ¬ ((q (j + 1)).y = h ∧ xq q i (2 * h) < ((q (j + 1)).x : Rat)) := fun k => hst (by omega)
        have ex : ((q j).x : Rat) = xq q j (2 * h) := by rw [← y1, xq_lo]
        rw [if_neg hc2, ex]
        have hj0 : rq q j (2 * h) := by unfold rq inR; omega
        rcases (show (q (j + 1)).y < h ∨ h < (q (j + 1)).y by omega) with y2 | y2
        · have e1 : sg q j (2 * h - 1) = -1 := by unfold sg; rw [if_neg (by omega), if_pos (by omega)]; rfl
          have e2 : sg q j (2 * h + 1) = 0 := by unfold sg; rw [if_pos (by omega), if_pos (by omega)]; rfl
          have hj1 : rq q j (2 * h - 1) := by unfold rq inR; omega
          have ho := (P.ord hi hj (Ne.symm hji) h1 hj1 h0 hj0 (fun m m' k1 k2 k3 => by rcases k1 with rfl | rfl <;> omega)).iff.1
          rw [e1, e2]
          simp only [ho, y1, true_and]
          (repeat' split) <;> omega
        · have e1 : sg q j (2 * h - 1) = 0 := by unfold sg; rw [if_neg (by omega), if_neg (by omega)]; rfl
          have e2 : sg q j (2 * h + 1) = 1 := by unfold sg; rw [if_pos (by omega), if_neg (by omega)]; rfl
          have hj1 : rq q j (2 * h + 1) := by unfold rq inR; omega
          have ho := (P.ord hi hj (Ne.symm hji) h2 hj1 h0 hj0 (fun m m' k1 k2 k3 => by rcases k1 with rfl | rfl <;> omega)).iff.1
          rw [e1, e2]
          simp only [ho, y1, true_and]
          (repeat' split) <;> omega
      · rw [if_neg (show ¬ ((q j).y = h ∧ xq q i (2 * h) < ((q j).x : Rat)) from fun k => y1 k.1)]
        by_cases y2 : (q (j + 1)).y = h
        · have ex : ((q (j + 1)).x : Rat) = xq q j (2 * h) := by rw [← y2, P.xhi hj]
          rw [ex]
          have hj0 : rq q j (2 * h) := by unfold rq inR; omega
          rcases (show (q j).y < h ∨ h < (q j).y by omega) with y3 | y3
          · have e1 : sg q j (2 * h - 1) = 1 := by unfold sg; rw [if_pos (by omega), if_neg (by omega)]; rfl
            have e2 : sg q j (2 * h + 1) = 0 := by unfold sg; rw [if_pos (by omega), if_pos (by omega)]; rfl
            have hj1 : rq q j (2 * h - 1) := by unfold rq inR; omega
            have ho := (P.ord hi hj (Ne.symm hji) h1 hj1 h0 hj0 (fun m m' k1 k2 k3 => by rcases k1 with rfl | rfl <;> omega)).iff.1
            rw [e1, e2]
            simp only [ho, y2, true_and]
            (repeat' split) <;> omega
          · have e1 : sg q j (2 * h - 1) = 0 := by unfold sg; rw [if_neg (by omega), if_neg (by omega)]; rfl
            have e2 : sg q j (2 * h + 1) = -1 := by unfold sg; rw [if_neg (by omega), if_pos (by omega)]; rfl
            have hj1 : rq q j (2 * h + 1) := by unfold rq inR; omega
            have ho := (P.ord hi hj (Ne.symm hji) h2 hj1 h0 hj0 (fun m m' k1 k2 k3 => by rcases k1 with rfl | rfl <;> omega)).iff.1
            rw [e1, e2]
            simp only [ho, y2, true_and]
            (repeat' split) <;> omega
        · rw [if_neg (show ¬ ((q (j + 1)).y = h ∧ xq q i (2 * h) < ((q (j + 1)).x : Rat)) from fun k => y2 k.1)]
          have es : sg q j (2 * h - 1) = sg q j (2 * h + 1) := by
            unfold sg
            repeat' split
            all_goals omega
          by_cases e0 : sg q j (2 * h + 1) = 0
          · rw [es, e0]; simp
          · have hr : ((q j).y < h ∧ h < (q (j + 1)).y) ∨ ((q (j + 1)).y < h ∧ h < (q j).y) := by
              unfold sg at e0
              split at e0 <;> split at e0 <;> omega
            have ho := (P.ord hi hj (Ne.symm hji) h1 (show rq q j (2 * h - 1) by unfold rq inR; omega) h2 (show rq q j (2 * h + 1) by unfold rq inR; omega) (fun m m' k1 k2 k3 => by omega)).iff.1
            rw [es]
            simp only [ho]
            omega
  unfold ww
  rw [hR, hs]
/-- The winding beside the edges at a corner, told by the other edges. -/
theorem Poly.at_corner {i e f : Nat} (hi : i + 1 < n) (hef : (e = i ∧ f = i + 1) ∨ (e = i + 1 ∧ f = i)) {T : Int} (hT : T = 2 * (q (i + 1)).y - 1 ∨ T = 2 * (q (i + 1)).y + 1) (hc : sg q e T ≠ 0) :
    rr q n (xq q e T) T = sumZ (fun j => if j ≠ i ∧ j ≠ i + 1 ∧ ((q (i + 1)).x : Rat) < xq q j (2 * (q (i + 1)).y) then sg q j (2 * (q (i + 1)).y - 1) else 0) n + (if xq q e T < xq q f T then sg q f T else 0) := by
  have he : e < n := by omega
  have hf : f < n := by omega
  have hv : xq q e (2 * (q (i + 1)).y) = ((q (i + 1)).x : Rat) := by
    rcases hef with ⟨rfl, rfl⟩ | ⟨rfl, rfl⟩
    · exact P.xhi (by omega)
    · exact xq_lo _ _
  have heR : rq q e (2 * (q (i + 1)).y) := by
    rcases hef with ⟨rfl, rfl⟩ | ⟨rfl, rfl⟩ <;> (unfold rq inR; omega)
  have heT : rq q e T := by
    unfold rq inR
    unfold sg at hc
    split at hc <;> split at hc <;> omega
  unfold rr
  refine sumZ_one (k := f) hf fun j hj => ?_
  by_cases h1 : j = e
  · subst h1
    rw [if_neg (Rat.lt_irrefl), if_neg (by omega), if_neg (by omega)]
    rfl
  · by_cases h2 : j = f
    · subst h2
      rw [if_pos rfl, if_neg (show ¬ (j ≠ i ∧ j ≠ i + 1 ∧ _) by omega)]
      omega
    · rw [if_neg h2]
      have h3 : j ≠ i := by omega
      have h4 : j ≠ i + 1 := by omega
      have y1 : (q j).y ≠ (q (i + 1)).y := fun k => h4 (P.dis j (i + 1) hj hi k)
      have y2 : (q (j + 1)).y ≠ (q (i + 1)).y := fun k => P.dis1 hi (by omega) hj (by omega) k.symm
      have es : sg q j T = sg q j (2 * (q (i + 1)).y - 1) := by
        unfold sg
        rcases hT with rfl | rfl <;> (repeat' split) <;> omega
      by_cases e0 : sg q j T = 0
      · rw [← es, e0]; simp
      · have hr : ((q j).y < (q (i + 1)).y ∧ (q (i + 1)).y < (q (j + 1)).y) ∨ ((q (j + 1)).y < (q (i + 1)).y ∧ (q (i + 1)).y < (q j).y) := by
          unfold sg at e0
          rcases hT with rfl | rfl <;> split at e0 <;> split at e0 <;> omega
        have hjT : rq q j T := by unfold rq inR; omega
        have hjR : rq q j (2 * (q (i + 1)).y) := by unfold rq inR; omega
        have ho := (P.ord he hj (fun k => h1 k.symm) heT hjT heR hjR (fun m m' k1 k2 k3 => by rcases k2 with rfl | rfl <;> omega)).iff.1
        rw [hv] at ho
        rw [← es]
        simp only [ho, h3, h4, ne_eq, not_false_eq_true, true_and]
        omega
theorem Poly.corner {i : Nat} (hi : i + 1 < n) : ∃ k l : Int, sg q i (2 * k + 1) ≠ 0 ∧ sg q (i + 1) (2 * l + 1) ≠ 0 ∧ ww q n i (2 * k + 1) = ww q n (i + 1) (2 * l + 1) := by
  have s1 := P.step (i := i) (by omega)
  have s2 := P.step (i := i + 1) hi
  have A1 := fun (T : Int) h1 h2 => P.at_corner (e := i) (f := i + 1) hi (.inl ⟨rfl, rfl⟩) (T := T) h1 h2
  have A2 := fun (T : Int) h1 h2 => P.at_corner (e := i + 1) (f := i) hi (.inr ⟨rfl, rfl⟩) (T := T) h1 h2
  obtain ⟨h, hh⟩ : ∃ h, (q (i + 1)).y = h := ⟨_, rfl⟩
  generalize sumZ _ n = N at A1 A2
  rw [hh] at A1 A2 s1 s2
  unfold ww
  have e0 : ∀ T : Int, sg q i T = (if 2 * (q i).y < T then 1 else 0) - (if 2 * h < T then 1 else 0) := fun T => by unfold sg; rw [hh]
  have f0 : ∀ T : Int, sg q (i + 1) T = (if 2 * h < T then 1 else 0) - (if 2 * (q (i + 1 + 1)).y < T then 1 else 0) := fun T => by unfold sg; rw [hh]
  have hne : ∀ T, (T = 2 * h - 1 ∨ T = 2 * h + 1) → sg q i T ≠ 0 → sg q (i + 1) T ≠ 0 → xq q i T ≠ xq q (i + 1) T := fun T hT c1 c2 => by
    rw [e0] at c1
    rw [f0] at c2
    have r1 : rq q i T := by
      unfold rq inR
      rw [hh]
      split at c1 <;> split at c1 <;> omega
    have r2 : rq q (i + 1) T := by
      unfold rq inR
      rw [hh]
      split at c2 <;> split at c2 <;> omega
    exact (P.ord (by omega) hi (by omega) r1 r2 r1 r2 fun m m' k1 k2 k3 => by omega).iff.2.1
  rcases (show (q i).y < h ∨ h < (q i).y by omega) with y1 | y1 <;> rcases (show (q (i + 1 + 1)).y < h ∨ h < (q (i + 1 + 1)).y by omega) with y2 | y2
  · have a1 : sg q i (2 * h - 1) = 1 := by rw [e0, if_pos (by omega), if_neg (by omega)]; rfl
    have a2 : sg q (i + 1) (2 * h - 1) = -1 := by rw [f0, if_neg (by omega), if_pos (by omega)]; rfl
    refine ⟨h - 1, h - 1, ?_⟩
    rw [show 2 * (h - 1) + 1 = 2 * h - 1 by omega]
    have h1 := hne (2 * h - 1) (.inl rfl) (by omega) (by omega)
    refine ⟨by omega, by omega, ?_⟩
    rw [A1 _ (.inl rfl) (by omega), A2 _ (.inl rfl) (by omega), a1, a2]
    by_cases h2 : xq q i (2 * h - 1) < xq q (i + 1) (2 * h - 1)
    · rw [if_pos h2, if_neg (show ¬ (xq q (i + 1) (2 * h - 1) < xq q i (2 * h - 1)) by grind), if_pos rfl, if_neg (by decide)]; omega
    · rw [if_neg h2, if_pos (show (xq q (i + 1) (2 * h - 1) < xq q i (2 * h - 1)) by grind), if_pos rfl, if_neg (by decide)]; omega
  · have a1 : sg q i (2 * h - 1) = 1 := by rw [e0, if_pos (by omega), if_neg (by omega)]; rfl
    have a2 : sg q (i + 1) (2 * h + 1) = 1 := by rw [f0, if_pos (by omega), if_neg (by omega)]; rfl
    have b1 : sg q (i + 1) (2 * h - 1) = 0 := by rw [f0, if_neg (by omega), if_neg (by omega)]; rfl
    have b2 : sg q i (2 * h + 1) = 0 := by rw [e0, if_pos (by omega), if_pos (by omega)]; rfl
    refine ⟨h - 1, h, ?_⟩
    rw [show 2 * (h - 1) + 1 = 2 * h - 1 by omega]
    refine ⟨by omega, by omega, ?_⟩
    rw [A1 _ (.inl rfl) (by omega), A2 _ (.inr rfl) (by omega), a1, a2, b1, b2]
    simp
  · have a1 : sg q i (2 * h + 1) = -1 := by rw [e0, if_neg (by omega), if_pos (by omega)]; rfl
    have a2 : sg q (i + 1) (2 * h - 1) = -1 := by rw [f0, if_neg (by omega), if_pos (by omega)]; rfl
    have b1 : sg q (i + 1) (2 * h + 1) = 0 := by rw [f0, if_pos (by omega), if_pos (by omega)]; rfl
    have b2 : sg q i (2 * h - 1) = 0 := by rw [e0, if_neg (by omega), if_neg (by omega)]; rfl
    refine ⟨h, h - 1, ?_⟩
    rw [show 2 * (h - 1) + 1 = 2 * h - 1 by omega]
    refine ⟨by omega, by omega, ?_⟩
    rw [A1 _ (.inr rfl) (by omega), A2 _ (.inl rfl) (by omega), a1, a2, b1, b2]
    simp
  · have a1 : sg q i (2 * h + 1) = -1 := by rw [e0, if_neg (by omega), if_pos (by omega)]; rfl
    have a2 : sg q (i + 1) (2 * h + 1) = 1 := by rw [f0, if_pos (by omega), if_neg (by omega)]; rfl
    refine ⟨h, h, ?_⟩
    have h1 := hne (2 * h + 1) (.inr rfl) (by omega) (by omega)
    refine ⟨by omega, by omega, ?_⟩
    rw [A1 _ (.inr rfl) (by omega), A2 _ (.inr rfl) (by omega), a1, a2]
    by_cases h2 : xq q i (2 * h + 1) < xq q (i + 1) (2 * h + 1)
    · rw [if_pos h2, if_neg (show ¬ (xq q (i + 1) (2 * h + 1) < xq q i (2 * h + 1)) by grind), if_pos rfl, if_neg (by decide)]; omega
    · rw [if_neg h2, if_pos (show (xq q (i + 1) (2 * h + 1) < xq q i (2 * h + 1)) by grind), if_pos rfl, if_neg (by decide)]; omega
theorem Poly.levels {i : Nat} (hi : i < n) : ∀ (d : Nat) (k : Int), sg q i (2 * k + 1) ≠ 0 → sg q i (2 * (k + d) + 1) ≠ 0 → ww q n i (2 * k + 1) = ww q n i (2 * (k + d) + 1)
  | 0, k, _, _ => by rw [show k + ((0 : Nat) : Int) = k by omega]
  | d + 1, k, h1, h2 => by
    have hm : sg q i (2 * (k + d) + 1) ≠ 0 := by
      unfold sg at h1 h2 ⊢
      split at h1 <;> split at h1 <;> split at h2 <;> split at h2 <;> (repeat' split) <;> omega
    rw [Poly.levels hi d k h1 hm]
    have := P.level (h := k + d + 1) hi (by rw [show 2 * (k + d + 1) - 1 = 2 * (k + d) + 1 by omega]; exact hm) (by rw [show 2 * (k + (d : Int) + 1) + 1 = 2 * (k + ((d + 1 : Nat) : Int)) + 1 by omega]; exact h2)
    rw [show 2 * (k + d + 1) - 1 = 2 * (k + d) + 1 by omega, show 2 * (k + (d : Int) + 1) + 1 = 2 * (k + ((d + 1 : Nat) : Int)) + 1 by omega] at this
    exact this
theorem Poly.edge {i : Nat} (hi : i < n) {k l : Int} (h1 : sg q i (2 * k + 1) ≠ 0) (h2 : sg q i (2 * l + 1) ≠ 0) : ww q n i (2 * k + 1) = ww q n i (2 * l + 1) := by
  rcases Int.le_total k l with h | h
  · have := P.levels hi (l - k).toNat k h1 (by rw [show k + ((l - k).toNat : Int) = l by omega]; exact h2)
    rw [show k + ((l - k).toNat : Int) = l by omega] at this
    exact this
  · have := P.levels hi (k - l).toNat l h2 (by rw [show l + ((k - l).toNat : Int) = k by omega]; exact h1)
    rw [show l + ((k - l).toNat : Int) = k by omega] at this
    exact this.symm
theorem Poly.around : ∃ C : Int, ∀ i, i < n → ∀ k, sg q i (2 * k + 1) ≠ 0 → ww q n i (2 * k + 1) = C := by
  have h3 := P.n3
  obtain ⟨k0, _, c0, _, _⟩ := P.corner (i := 0) (by omega)
  refine ⟨ww q n 0 (2 * k0 + 1), fun i => ?_⟩
  induction i with
  | zero => intro hi k hk; exact P.edge hi hk c0
  | succ i ih =>
    intro hi k hk
    obtain ⟨a, b, c1, c2, he⟩ := P.corner hi
    rw [← ih (by omega) a c1, he]
    exact P.edge hi hk c2
end
def sumS (l : List (Int × Rat)) : Int := (l.map (·.1)).sum
def sumSX (l : List (Int × Rat)) : Rat := (l.map fun p => (p.1 : Rat) * p.2).sum
def above (z : Rat) (l : List (Int × Rat)) : Int := sumS (l.filter fun p => decide (z < p.2))
theorem sumS_cons (p : Int × Rat) (l : List (Int × Rat)) : sumS (p :: l) = p.1 + sumS l := by simp [sumS]
theorem sumSX_cons (p : Int × Rat) (l : List (Int × Rat)) : sumSX (p :: l) = (p.1 : Rat) * p.2 + sumSX l := by simp [sumSX]
theorem sumS_append (l m : List (Int × Rat)) : sumS (l ++ m) = sumS l + sumS m := by simp [sumS]
theorem sumS_perm {l m : List (Int × Rat)} (h : l.Perm m) : sumS l = sumS m := by
  induction h with
  | nil => rfl
  | cons x _ ih => rw [sumS_cons, sumS_cons, ih]
  | swap x y l => simp only [sumS_cons]; omega
  | trans _ _ h1 h2 => rw [h1, h2]
theorem sumSX_perm {l m : List (Int × Rat)} (h : l.Perm m) : sumSX l = sumSX m := by
  induction h with
  | nil => rfl
  | cons x _ ih => rw [sumSX_cons, sumSX_cons, ih]
  | swap x y l => simp only [sumSX_cons]; grind
  | trans _ _ h1 h2 => rw [h1, h2]
theorem above_perm {z : Rat} {l m : List (Int × Rat)} (h : l.Perm m) : above z l = above z m := sumS_perm (h.filter _)
theorem abel : ∀ (l : List (Int × Rat)) (S : Int) (x0 : Rat), 0 ≤ S → (∀ p ∈ l, p.2 ≤ x0) → l.Pairwise (fun a b => b.2 ≤ a.2) → (∀ pre p post, l = pre ++ p :: post → 0 ≤ S + (sumS pre + p.1)) → S + sumS l = 0 → 0 ≤ (S : Rat) * x0 + sumSX l
  | [], S, x0, _, _, _, _, h0 => by
    have : S = 0 := by simpa [sumS] using h0
    subst this
    show (0 : Rat) ≤ 0 * x0 + 0
    grind
  | p :: t, S, x0, hS, hx, hp, hpre, h0 => by
    have h1 := hpre [] p t rfl
    have h1' : 0 ≤ S + p.1 := by simpa [sumS] using h1
    have hpw := List.pairwise_cons.1 hp
    have ih := abel t (S + p.1) p.2 h1' hpw.1 hpw.2 (fun pre r post e => by
      have := hpre (p :: pre) r post (by rw [e]; rfl)
      rw [sumS_cons] at this
      omega) (by rw [sumS_cons] at h0; omega)
    have h2 := hx p (by simp)
    have h3 : (0 : Rat) ≤ (S : Rat) := by exact_mod_cast hS
    have h4 := Rat.mul_le_mul_of_nonneg_left h2 h3
    rw [sumSX_cons]
    rw [Rat.intCast_add] at ih
    grind
theorem pos1 (l : List (Int × Rat)) (hne : l ≠ []) (hp : l.Pairwise (fun a b => b.2 < a.2)) (h1 : ∀ p ∈ l, p.1 = 1 ∨ p.1 = -1) (hpre : ∀ pre p post, l = pre ++ p :: post → 0 ≤ sumS pre + p.1) (h0 : sumS l = 0) : 0 < sumSX l := by
  match l, hne with
  | p :: t, _ =>
    have hp1 : p.1 = 1 := by
      have := hpre [] p t rfl
      have h2 := h1 p (by simp)
      have h3 : 0 ≤ p.1 := by simpa [sumS] using this
      omega
    rw [sumS_cons, hp1] at h0
    match t, h0 with
    | [], h0 => simp [sumS] at h0
    | r :: t, h0 =>
      have hpw := List.pairwise_cons.1 hp
      have hrp := hpw.1 r (by simp)
      have hpw2 := List.pairwise_cons.1 hpw.2
      have := abel (r :: t) 1 r.2 (by omega) (fun x hx => by
        rcases List.mem_cons.1 hx with rfl | hx
        · exact Rat.le_refl
        · exact Rat.le_of_lt (hpw2.1 x hx)) (hpw.2.imp fun h => Rat.le_of_lt h) (fun pre x post e => by
        have := hpre (p :: pre) x post (by rw [e]; rfl)
        rw [sumS_cons, hp1] at this
        omega) h0
      rw [sumSX_cons, hp1]
      have e1 : ((1 : Int) : Rat) = 1 := rfl
      rw [e1] at this ⊢
      grind
theorem above_sorted {l pre post : List (Int × Rat)} {p : Int × Rat} (hp : l.Pairwise (fun a b => b.2 < a.2)) (e : l = pre ++ p :: post) : above p.2 l = sumS pre := by
  subst e
  have h1 := List.pairwise_append.1 hp
  have h2 := List.pairwise_cons.1 h1.2.1
  unfold above
  rw [List.filter_append, List.filter_cons_of_neg (by simp [Rat.lt_irrefl]), List.filter_eq_self.2 (fun x hx => by simpa using h1.2.2 x hx p (by simp)), List.filter_eq_nil_iff.2 (fun x hx => by simpa [Rat.not_lt] using Rat.le_of_lt (h2.1 x hx)), List.append_nil]
def negL (l : List (Int × Rat)) : List (Int × Rat) := l.map fun p => (-p.1, p.2)
theorem sumS_neg (l : List (Int × Rat)) : sumS (negL l) = -sumS l := by
  induction l with
  | nil => rfl
  | cons p l ih => simp only [negL, List.map_cons, sumS_cons] at ih ⊢; rw [ih]; omega
theorem sumSX_neg (l : List (Int × Rat)) : sumSX (negL l) = -sumSX l := by
  induction l with
  | nil => simp [negL, sumSX]
  | cons p l ih => simp only [negL, List.map_cons, sumSX_cons] at ih ⊢; rw [ih, Rat.intCast_neg]; grind
theorem pos_of (l : List (Int × Rat)) (hne : l ≠ []) (hd : l.Pairwise (fun a b => a.2 ≠ b.2)) (h1 : ∀ p ∈ l, p.1 = 1 ∨ p.1 = -1) (C : Int) (hC : ∀ p ∈ l, above p.2 l + (if p.1 = 1 then 1 else 0) = C) (h0 : sumS l = 0) : (C = 1 ∧ 0 < sumSX l) ∨ (C = 0 ∧ sumSX l < 0) := by
  have hperm := List.mergeSort_perm l (fun a b => decide (b.2 ≤ a.2))
  have hs := List.pairwise_mergeSort (le := fun a b : Int × Rat => decide (b.2 ≤ a.2)) (fun a b c h h' => by
    have h := of_decide_eq_true h
    have h' := of_decide_eq_true h'
    exact decide_eq_true (Rat.le_trans h' h)) (fun a b => by
    simp only [Bool.or_eq_true, decide_eq_true_eq]
    exact Rat.le_total) l
  generalize l.mergeSort (fun a b => decide (b.2 ≤ a.2)) = m at hperm hs
  have hdm : m.Pairwise (fun a b => a.2 ≠ b.2) := (hperm.pairwise_iff (fun h => Ne.symm h)).2 hd
  have hsm : m.Pairwise (fun a b => b.2 < a.2) := by
    refine (List.Pairwise.and hs hdm).imp fun h => ?_
    have h2 := of_decide_eq_true h.1
    have h3 := h.2
    grind
  have hm1 : ∀ p ∈ m, p.1 = 1 ∨ p.1 = -1 := fun p hp => h1 p (hperm.mem_iff.1 hp)
  have hmC : ∀ pre p post, m = pre ++ p :: post → sumS pre + (if p.1 = 1 then 1 else 0) = C := fun pre p post e => by
    have := hC p (hperm.mem_iff.1 (by rw [e]; simp))
    rw [← above_perm hperm, above_sorted hsm e] at this
    exact this
  have hmne : m ≠ [] := fun h => hne (by rw [h] at hperm; exact hperm.nil_eq.symm)
  have hm0 : sumS m = 0 := by rw [sumS_perm hperm, h0]
  rw [← sumSX_perm hperm]
  have hC01 : C = 0 ∨ C = 1 := by
    cases m with
    | nil => exact absurd rfl hmne
    | cons p t =>
      have := hmC [] p t rfl
      have e : sumS ([] : List (Int × Rat)) = 0 := rfl
      rw [e] at this
      split at this <;> omega
  rcases hC01 with rfl | rfl
  · right
    refine ⟨rfl, ?_⟩
    have := pos1 (negL m) (by simpa [negL] using hmne) (by unfold negL; rw [List.pairwise_map]; exact hsm) (fun p hp => by
      obtain ⟨r, hr, rfl⟩ := List.mem_map.1 hp
      have := hm1 r hr
      dsimp only
      omega) (fun pre p post e => by
      unfold negL at e
      obtain ⟨a, b, e1, e2, e3⟩ := List.map_eq_append_iff.1 e
      obtain ⟨r, c, e4, e5, e6⟩ := List.map_eq_cons_iff.1 e3
      subst e2 e5
      have h2 := hmC a r c (by rw [e1, e4])
      have h3 := sumS_neg a
      unfold negL at h3
      rw [h3]
      have h4 := hm1 r (by rw [e1, e4]; simp)
      dsimp only
      split at h2 <;> omega) (by rw [sumS_neg, hm0]; rfl)
    rw [sumSX_neg] at this
    grind
  · left
    refine ⟨rfl, pos1 m hmne hsm hm1 (fun pre p post e => ?_) hm0⟩
    have h2 := hmC pre p post e
    have h4 := hm1 p (by rw [e]; simp)
    split at h2 <;> omega
def lst (F : Nat → Int × Rat) (n : Nat) : List (Int × Rat) := ((List.range n).filter fun j => decide ((F j).1 ≠ 0)).map F
theorem lst_succ (F : Nat → Int × Rat) (n : Nat) : lst F (n + 1) = lst F n ++ if (F n).1 = 0 then [] else [F n] := by
  unfold lst
  rw [List.range_succ, List.filter_append, List.map_append]
  congr 1
  by_cases h : (F n).1 = 0 <;> simp [h]
theorem sumS_lst (F : Nat → Int × Rat) : ∀ n, sumS (lst F n) = sumZ (fun j => (F j).1) n
  | 0 => rfl
  | n + 1 => by
    rw [lst_succ, sumS_append, sumS_lst F n]
    simp only [sumZ]
    split
    · rename_i h; rw [h]; rfl
    · simp [sumS]
theorem sumSX_append (l m : List (Int × Rat)) : sumSX (l ++ m) = sumSX l + sumSX m := by simp [sumSX]
theorem sumSX_lst (F : Nat → Int × Rat) : ∀ n, sumSX (lst F n) = sumQ (fun j => ((F j).1 : Rat) * (F j).2) n
  | 0 => rfl
  | n + 1 => by
    rw [lst_succ, sumSX_append, sumSX_lst F n]
    simp only [sumQ]
    split
    · rename_i h
      rw [h]
      show _ + 0 = _ + ((0 : Int) : Rat) * _
      rw [show ((0 : Int) : Rat) = 0 from rfl, Rat.zero_mul]
    · simp [sumSX, Rat.add_zero]
theorem above_lst (F : Nat → Int × Rat) (z : Rat) : ∀ n, above z (lst F n) = sumZ (fun j => if z < (F j).2 then (F j).1 else 0) n
  | 0 => rfl
  | n + 1 => by
    have ih := above_lst F z n
    unfold above at ih ⊢
    rw [lst_succ, List.filter_append, sumS_append, ih]
    simp only [sumZ]
    by_cases h : (F n).1 = 0
    · rw [if_pos h, h]
      simp [sumS]
    · rw [if_neg h]
      by_cases h2 : z < (F n).2
      · rw [if_pos h2]; simp [sumS, h2]
      · rw [if_neg h2]; simp [sumS, h2]
section
variable {n : Nat} {q : Nat → Pt} (P : Poly n q)
include P
theorem Poly.cross {C : Int} (hC : ∀ i, i < n → ∀ k, sg q i (2 * k + 1) ≠ 0 → ww q n i (2 * k + 1) = C) (k : Int) (hne : ∃ i, i < n ∧ sg q i (2 * k + 1) ≠ 0) :
    (C = 1 ∧ 0 < sumQ (fun j => (sg q j (2 * k + 1) : Rat) * xq q j (2 * k + 1)) n) ∨ (C = 0 ∧ sumQ (fun j => (sg q j (2 * k + 1) : Rat) * xq q j (2 * k + 1)) n < 0) := by
  have e := sumSX_lst (fun j => (sg q j (2 * k + 1), xq q j (2 * k + 1))) n
  simp only at e
  rw [← e]
  have hin : ∀ j, sg q j (2 * k + 1) ≠ 0 → rq q j (2 * k + 1) := fun j h => by
    unfold rq inR
    unfold sg at h
    split at h <;> split at h <;> omega
  refine pos_of _ ?_ ?_ ?_ C ?_ ?_
  · obtain ⟨i, hi, h⟩ := hne
    intro h0
    unfold lst at h0
    rw [List.map_eq_nil_iff, List.filter_eq_nil_iff] at h0
    exact h0 i (List.mem_range.2 hi) (decide_eq_true h)
  · unfold lst
    rw [List.pairwise_map]
    refine List.Pairwise.imp_of_mem ?_ ((List.pairwise_lt_range (n := n)).filter _)
    intro i j hi hj hlt
    have hi' := List.mem_filter.1 hi
    have hj' := List.mem_filter.1 hj
    have h1 := hin i (by simpa using hi'.2)
    have h2 := hin j (by simpa using hj'.2)
    exact (P.ord (List.mem_range.1 hi'.1) (List.mem_range.1 hj'.1) (by omega) h1 h2 h1 h2 fun m m' _ _ _ => by omega).iff.2.1
  · intro p hp
    obtain ⟨j, hj, rfl⟩ := List.mem_map.1 hp
    have h := (List.mem_filter.1 hj).2
    have h2 : sg q j (2 * k + 1) ≠ 0 := by simpa using h
    dsimp only
    unfold sg at h2 ⊢
    split at h2 <;> split at h2 <;> omega
  · intro p hp
    obtain ⟨j, hj, rfl⟩ := List.mem_map.1 hp
    have h := List.mem_filter.1 hj
    rw [above_lst]
    exact hC j (List.mem_range.1 h.1) k (by simpa using h.2)
  · rw [sumS_lst]
    have := sumZ_tel (f := fun j => sg q j (2 * k + 1)) (g := fun _ => 0) (c := fun j => if 2 * (q j).y < 2 * k + 1 then -1 else 0) (n := n) fun i _ => by
      unfold sg
      (repeat' split) <;> omega
    rw [this, P.per]
    have hz : sumZ (fun _ => 0) n = 0 := by
      clear this hne hC e hin P
      induction n with
      | zero => rfl
      | succ n ih => simp only [sumZ]; omega
    omega
end
/-- The area beside an edge up to a height, as far as the edge goes. -/
def fq (q : Nat → Pt) (i : Nat) (k : Int) : Rat := 2 * ((q i).x - bet (q i) (q (i + 1)) * ((2 * (q i).y : Int) : Rat)) * (k : Rat) + 2 * bet (q i) (q (i + 1)) * (k : Rat) * (k : Rat)
def pq (q : Nat → Pt) (i : Nat) (k : Int) : Rat := fq q i (min (q (i + 1)).y k) - fq q i (min (q i).y k)
theorem fq_step (q : Nat → Pt) (i : Nat) (k : Int) : fq q i (k + 1) - fq q i k = 2 * xq q i (2 * k + 1) := by
  unfold fq xq xAt
  have e : ((2 * k + 1 - 2 * (q i).y : Int) : Rat) = 2 * (k : Rat) + 1 - ((2 * (q i).y : Int) : Rat) := by
    rw [Rat.intCast_sub, Rat.intCast_add, Rat.intCast_mul]; rfl
  have e2 : ((k + 1 : Int) : Rat) = (k : Rat) + 1 := by rw [Rat.intCast_add]; rfl
  rw [e, e2]
  grind
theorem pq_step (q : Nat → Pt) (i : Nat) (k : Int) : pq q i (k + 1) = pq q i k + 2 * ((sg q i (2 * k + 1) : Rat) * xq q i (2 * k + 1)) := by
  have h := fq_step q i k
  unfold pq
  have hm : ∀ y : Int, (k < y → min y (k + 1) = k + 1 ∧ min y k = k) ∧ (y ≤ k → min y (k + 1) = y ∧ min y k = y) := fun y => by omega
  have z0 : ((0 : Int) : Rat) = 0 := rfl
  have z1 : ((1 : Int) : Rat) = 1 := rfl
  have z2 : ((-1 : Int) : Rat) = -1 := rfl
  rcases (show k < (q i).y ∨ (q i).y ≤ k by omega) with h1 | h1 <;> rcases (show k < (q (i + 1)).y ∨ (q (i + 1)).y ≤ k by omega) with h2 | h2
  · have es : sg q i (2 * k + 1) = 0 := by unfold sg; rw [if_neg (by omega), if_neg (by omega)]; rfl
    rw [((hm _).1 h1).1, ((hm _).1 h1).2, ((hm _).1 h2).1, ((hm _).1 h2).2, es, z0]
    grind
  · have es : sg q i (2 * k + 1) = -1 := by unfold sg; rw [if_neg (by omega), if_pos (by omega)]; rfl
    rw [((hm _).1 h1).1, ((hm _).1 h1).2, ((hm _).2 h2).1, ((hm _).2 h2).2, es, z2]
    grind
  · have es : sg q i (2 * k + 1) = 1 := by unfold sg; rw [if_pos (by omega), if_neg (by omega)]; rfl
    rw [((hm _).2 h1).1, ((hm _).2 h1).2, ((hm _).1 h2).1, ((hm _).1 h2).2, es, z1]
    grind
  · have es : sg q i (2 * k + 1) = 0 := by unfold sg; rw [if_pos (by omega), if_pos (by omega)]; rfl
    rw [((hm _).2 h1).1, ((hm _).2 h1).2, ((hm _).2 h2).1, ((hm _).2 h2).2, es, z0]
    grind
theorem rise (g : Nat → Rat) (h0 : g 0 = 0) (hm : ∀ d, g d ≤ g (d + 1)) {d0 D : Nat} (h1 : g d0 < g (d0 + 1)) (h2 : d0 < D) : 0 < g D := by
  have hp : ∀ d, 0 ≤ g d := fun d => by
    induction d with
    | zero => rw [h0]; exact Rat.le_refl
    | succ d ih => exact Rat.le_trans ih (hm d)
  have hq : ∀ e, 0 < g (d0 + 1 + e) := fun e => by
    induction e with
    | zero => have := hp d0; show 0 < g (d0 + 1); grind
    | succ e ih => have := hm (d0 + 1 + e); show 0 < g (d0 + 1 + e + 1); grind
  have := hq (D - (d0 + 1))
  rwa [show d0 + 1 + (D - (d0 + 1)) = D by omega] at this
theorem sumQ_mul (c : Rat) (f : Nat → Rat) : ∀ n, sumQ (fun i => c * f i) n = c * sumQ f n
  | 0 => by simp only [sumQ]; grind
  | n + 1 => by simp only [sumQ]; rw [sumQ_mul c f n]; grind
section
variable {n : Nat} {q : Nat → Pt} (P : Poly n q)
include P
theorem Poly.area : sumZ (fun i => ((q i).x + (q (i + 1)).x) * ((q (i + 1)).y - (q i).y)) n ≠ 0 := by
  have h3 := P.n3
  obtain ⟨C, hC⟩ := P.around
  have hstep : ∀ k : Int, sumQ (fun i => pq q i (k + 1)) n = sumQ (fun i => pq q i k) n + 2 * sumQ (fun j => (sg q j (2 * k + 1) : Rat) * xq q j (2 * k + 1)) n := fun k => by
    rw [← sumQ_mul]
    exact sumQ_add fun i _ => pq_step q i k
  have hlo : sumQ (fun i => pq q i (-5000000)) n = 0 := sumQ_zero fun i _ => by
    unfold pq
    rw [Int.min_eq_right (P.bd i).1, Int.min_eq_right (P.bd (i + 1)).1]
    grind
  have hhi : sumQ (fun i => pq q i 5000000) n = ((sumZ (fun i => ((q i).x + (q (i + 1)).x) * ((q (i + 1)).y - (q i).y)) n : Int) : Rat) := sumQ_cast fun i hi => by
    unfold pq fq
    rw [Int.min_eq_left (P.bd i).2, Int.min_eq_left (P.bd (i + 1)).2]
    have e := bet_mul (P.step hi)
    simp only [Rat.intCast_mul, Rat.intCast_add, Rat.intCast_sub] at e ⊢
    have z2 : ((2 : Int) : Rat) = 2 := rfl
    rw [z2] at e ⊢
    grind
  have hcr : ∀ k : Int, (∀ i, i < n → sg q i (2 * k + 1) = 0) ∨ ∃ i, i < n ∧ sg q i (2 * k + 1) ≠ 0 := fun k => by
    by_cases h : ∃ i, i < n ∧ sg q i (2 * k + 1) ≠ 0
    · exact .inr h
    · left
      intro i hi
      by_cases h2 : sg q i (2 * k + 1) = 0
      · exact h2
      · exact absurd ⟨i, hi, h2⟩ h
  have hz : ∀ k : Int, (∀ i, i < n → sg q i (2 * k + 1) = 0) → sumQ (fun j => (sg q j (2 * k + 1) : Rat) * xq q j (2 * k + 1)) n = 0 := fun k h => sumQ_zero fun i hi => by
    rw [h i hi]
    show (0 : Rat) * _ = 0
    exact Rat.zero_mul _
  obtain ⟨k0, _, c0, _, _⟩ := P.corner (i := 0) (by omega)
  have b0 := P.bd 0
  have b1 := P.bd (0 + 1)
  have hk : -5000000 ≤ k0 ∧ k0 < 5000000 := by
    unfold sg at c0
    split at c0 <;> split at c0 <;> omega
  have hx0 := P.cross hC k0 ⟨0, by omega, c0⟩
  intro hA
  rw [hA] at hhi
  have hpos : ∀ s : Rat, (∀ k : Int, 0 ≤ s * sumQ (fun j => (sg q j (2 * k + 1) : Rat) * xq q j (2 * k + 1)) n) → 0 < s * sumQ (fun j => (sg q j (2 * k0 + 1) : Rat) * xq q j (2 * k0 + 1)) n → False := fun s h1 h2 => by
    have := rise (fun d => s * sumQ (fun i => pq q i (-5000000 + (d : Int))) n) (by
      show s * sumQ (fun i => pq q i (-5000000 + ((0 : Nat) : Int))) n = 0
      rw [show (-5000000 + ((0 : Nat) : Int)) = -5000000 by omega, hlo, Rat.mul_zero]) (fun d => by
      show s * sumQ (fun i => pq q i (-5000000 + (d : Int))) n ≤ s * sumQ (fun i => pq q i (-5000000 + ((d + 1 : Nat) : Int))) n
      rw [show (-5000000 + ((d + 1 : Nat) : Int)) = (-5000000 + (d : Int)) + 1 by omega, hstep]
      have := h1 (-5000000 + (d : Int))
      grind) (d0 := (k0 + 5000000).toNat) (D := 10000000) (by
      show s * sumQ (fun i => pq q i (-5000000 + ((k0 + 5000000).toNat : Int))) n < s * sumQ (fun i => pq q i (-5000000 + (((k0 + 5000000).toNat + 1 : Nat) : Int))) n
      rw [show (-5000000 + (((k0 + 5000000).toNat + 1 : Nat) : Int)) = k0 + 1 by omega, show (-5000000 + ((k0 + 5000000).toNat : Int)) = k0 by omega, hstep]
      grind) (by omega)
    have e : (fun d : Nat => s * sumQ (fun i => pq q i (-5000000 + (d : Int))) n) 10000000 = s * sumQ (fun i => pq q i 5000000) n := by
      show s * sumQ (fun i => pq q i (-5000000 + ((10000000 : Nat) : Int))) n = _
      rw [show (-5000000 + ((10000000 : Nat) : Int)) = 5000000 by omega]
    replace e := e
    dsimp only at this e
    rw [e, hhi] at this
    have z0 : ((0 : Int) : Rat) = 0 := rfl
    rw [z0, Rat.mul_zero] at this
    exact Rat.lt_irrefl this
  rcases hx0 with ⟨rfl, h⟩ | ⟨rfl, h⟩
  · refine hpos 1 (fun k => ?_) (by rw [Rat.one_mul]; exact h)
    rw [Rat.one_mul]
    rcases hcr k with h1 | h1
    · rw [hz k h1]; exact Rat.le_refl
    · rcases P.cross hC k h1 with ⟨_, h2⟩ | ⟨h2, _⟩
      · exact Rat.le_of_lt h2
      · omega
  · refine hpos (-1) (fun k => ?_) (by grind)
    rcases hcr k with h1 | h1
    · rw [hz k h1]; grind
    · rcases P.cross hC k h1 with ⟨h2, _⟩ | ⟨_, h2⟩
      · omega
      · grind
end
/-- The plane, sheared so that points of a small field lie at different heights. -/
def shr (p : Pt) : Pt := ⟨p.x, 4001 * p.y + p.x⟩
theorem turn_shr (a b c : Pt) : turnZ (shr a) (shr b) (shr c) = 4001 * turnZ a b c := by
  unfold turnZ shr
  grind
structure SmPt (p : Pt) : Prop where
  x1 : -1000 ≤ p.x
  x2 : p.x ≤ 1000
  y1 : -1000 ≤ p.y
  y2 : p.y ≤ 1000
theorem shr_inj {a b : Pt} (ha : SmPt a) (hb : SmPt b) (h : (shr a).y = (shr b).y) : a = b := by
  obtain ⟨a1, a2, a3, a4⟩ := ha
  obtain ⟨b1, b2, b3, b4⟩ := hb
  simp only [shr] at h
  exact Pt.ext' (by omega) (by omega)
theorem on_lo {x1 y1 x2 y2 x3 y3 : Int} (hx : -2000 ≤ x2 - x1 ∧ x2 - x1 ≤ 2000 ∧ -2000 ≤ x3 - x1 ∧ x3 - x1 ≤ 2000 ∧ -2000 ≤ x3 - x2 ∧ x3 - x2 ≤ 2000)
    (ht : (x2 - x1) * (y3 - y1) - (y2 - y1) * (x3 - x1) = 0) (h1 : 4001 * y1 + x1 ≤ 4001 * y3 + x3) (h2 : 4001 * y3 + x3 ≤ 4001 * y2 + x2) : (y1 ≤ y3 ∧ y3 ≤ y2) ∧ ((x1 ≤ x3 ∧ x3 ≤ x2) ∨ (x2 ≤ x3 ∧ x3 ≤ x1)) := by
  have e1 : y1 ≤ y3 := by omega
  have e2 : y3 ≤ y2 := by omega
  refine ⟨⟨e1, e2⟩, ?_⟩
  rcases (show y1 = y2 ∨ y1 < y2 by omega) with h | h
  · omega
  · have g1 : 0 ≤ y3 - y1 := by omega
    have g2 : 0 ≤ y2 - y3 := by omega
    have g3 : 0 < y2 - y1 := by omega
    rcases Int.le_total x1 x2 with hx2 | hx2
    · have m1 := Int.mul_nonneg (show 0 ≤ x2 - x1 by omega) g1
      have m2 := Int.mul_nonneg (show 0 ≤ x2 - x1 by omega) g2
      left
      constructor
      · refine Int.not_lt.1 fun hlt => ?_
        have := Int.mul_pos g3 (show 0 < x1 - x3 by omega)
        grind
      · refine Int.not_lt.1 fun hlt => ?_
        have := Int.mul_pos g3 (show 0 < x3 - x2 by omega)
        grind
    · have m1 := Int.mul_nonneg (show 0 ≤ x1 - x2 by omega) g1
      have m2 := Int.mul_nonneg (show 0 ≤ x1 - x2 by omega) g2
      right
      constructor
      · refine Int.not_lt.1 fun hlt => ?_
        have := Int.mul_pos g3 (show 0 < x2 - x3 by omega)
        grind
      · refine Int.not_lt.1 fun hlt => ?_
        have := Int.mul_pos g3 (show 0 < x3 - x1 by omega)
        grind
theorem on_of {a b c : Pt} (ha : SmPt a) (hb : SmPt b) (hc : SmPt c) (ht : turnZ a b c = 0) (h : ((shr a).y ≤ (shr c).y ∧ (shr c).y ≤ (shr b).y) ∨ ((shr b).y ≤ (shr c).y ∧ (shr c).y ≤ (shr a).y)) : isOnB a b c = true := by
  obtain ⟨a1, a2, a3, a4⟩ := ha
  obtain ⟨b1, b2, b3, b4⟩ := hb
  obtain ⟨c1, c2, c3, c4⟩ := hc
  simp only [shr] at h
  unfold isOnB inB
  rw [ht]
  unfold turnZ at ht
  simp only [Bool.and_eq_true, beq_self_eq_true, decide_eq_true_eq, true_and]
  rcases h with ⟨h1, h2⟩ | ⟨h1, h2⟩
  · have := on_lo (x1 := a.x) (y1 := a.y) (x2 := b.x) (y2 := b.y) (x3 := c.x) (y3 := c.y) (by omega) ht h1 h2
    omega
  · have := on_lo (x1 := b.x) (y1 := b.y) (x2 := a.x) (y2 := a.y) (x3 := c.x) (y3 := c.y) (by omega) (by grind) h1 h2
    omega
theorem opp_sign {s t : Int} (h : oppZ (4001 * s) (4001 * t)) : decide (signZ s * signZ t < 0) = true := by
  unfold oppZ at h
  have h1 : (s < 0 ∧ 0 < t) ∨ (t < 0 ∧ 0 < s) := by omega
  rw [decide_eq_true_eq]
  unfold signZ
  rcases h1 with ⟨h1, h2⟩ | ⟨h1, h2⟩
  · rw [if_pos h1, if_neg (by omega), if_pos h2]; decide
  · rw [if_neg (by omega), if_pos h2, if_pos h1]; decide
theorem far_of {a b c d : Pt} (ha : SmPt a) (hb : SmPt b) (hc : SmPt c) (hd : SmPt d) (h : crossB a b c d = false) : Far (shr a) (shr b) (shr c) (shr d) := by
  simp only [crossB, Bool.or_eq_false_iff] at h
  obtain ⟨⟨⟨⟨h1, h2⟩, h3⟩, h4⟩, h5⟩ := h
  have z : ∀ {t : Int}, 4001 * t = 0 → t = 0 := fun h => by omega
  refine ⟨fun ht hh => ?_, fun ht hh => ?_, fun ht hh => ?_, fun ht hh => ?_, fun hh => ?_⟩
  · rw [turn_shr] at ht
    rw [on_of ha hb hc (z ht) hh] at h1
    cases h1
  · rw [turn_shr] at ht
    rw [on_of ha hb hd (z ht) hh] at h2
    cases h2
  · rw [turn_shr] at ht
    rw [on_of hc hd ha (z ht) hh] at h3
    cases h3
  · rw [turn_shr] at ht
    rw [on_of hc hd hb (z ht) hh] at h4
    cases h4
  · simp only [turn_shr] at hh
    have e1 := opp_sign hh.1
    have e2 := opp_sign hh.2
    unfold crossS at h5
    rw [e1, e2] at h5
    cases h5
/-- Twice the area of a ring, less than 0 if it is clockwise. -/
def areaZ (L : List Pt) : Int := sumZ (fun i => (cor L i).x * (cor L (i + 1)).y - (cor L i).y * (cor L (i + 1)).x) L.length
theorem cor_per (L : List Pt) (i : Nat) : cor L (L.length + i) = cor L i := by unfold cor; rw [Nat.add_mod_left]
theorem RingP.poly {L : List Pt} (h : RingP L) (h3 : 3 ≤ L.length) (hs : ∀ i, SmPt (cor L i)) : Poly L.length (fun i => shr (cor L i)) where
  n3 := h3
  per := by rw [show cor L L.length = cor L 0 from cor_per L 0]
  per1 := by rw [cor_per]
  dis := fun i j hi hj hy => by
    have e := shr_inj (hs i) (hs j) hy
    rcases Nat.lt_trichotomy i j with h1 | h1 | h1
    · exact absurd e.symm (h.apart j i h1 hj)
    · exact h1
    · exact absurd e (h.apart i j h1 hi)
  adj := fun i hi => by
    rw [turn_shr]
    have := h.turn i hi
    unfold turnAtZ at this
    omega
  far := fun i j h1 h2 h4 => by
    refine far_of (hs _) (hs _) (hs _) (hs _) ?_
    have := h.cross i j (by omega) h2
    simp only [apartB, Bool.or_eq_true, Bool.and_eq_true, decide_eq_true_eq, Bool.not_eq_true'] at this
    rcases this with (h5 | h5) | h5
    · omega
    · exact absurd h5 h4
    · exact h5
  bd := fun i => by
    obtain ⟨a1, a2, a3, a4⟩ := hs i
    simp only [shr]
    omega
theorem RingP.area {L : List Pt} (h : RingP L) (h3 : 3 ≤ L.length) (hs : ∀ i, SmPt (cor L i)) : areaZ L ≠ 0 := by
  have h1 := (h.poly h3 hs).area
  intro h0
  refine h1 ?_
  have e := sumZ_tel (f := fun i => ((shr (cor L i)).x + (shr (cor L (i + 1))).x) * ((shr (cor L (i + 1))).y - (shr (cor L i)).y)) (g := fun i => 4001 * ((cor L i).x * (cor L (i + 1)).y - (cor L i).y * (cor L (i + 1)).x))
    (c := fun i => 4001 * ((cor L i).x * (cor L i).y) + (cor L i).x * (cor L i).x) (n := L.length) fun i _ => by
      simp only [shr]
      grind
  have m : ∀ (f : Nat → Int) n, sumZ (fun i => 4001 * f i) n = 4001 * sumZ f n := fun f n => by
    induction n with
    | zero => rfl
    | succ n ih => simp only [sumZ]; rw [ih]; omega
  rw [m, show cor L L.length = cor L 0 from cor_per L 0] at e
  unfold areaZ at h0
  rw [h0] at e
  omega
end Go.Proofs.YtklcaphkfdlipaaGreatDoor
