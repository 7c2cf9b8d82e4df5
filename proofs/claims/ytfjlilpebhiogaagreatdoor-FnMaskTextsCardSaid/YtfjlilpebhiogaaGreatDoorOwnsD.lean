import Derived.Test.YtfjlilpebhiogaaGreatDoorPackAa
/- Rows of a call's own in later worlds (as in the texts Two and DrawM, for the seats of claims). -/
set_option linter.unusedSimpArgs false
set_option linter.unusedVariables false
namespace Go.Proofs.YtfjlilpebhiogaaGreatDoor
open Go.RowKit
theorem owns_alloc {w : World} {lo hi e s n : Nat} {a : Option Addr} {c : Nat} {xs : List Value} (h : Owns w lo hi e s n a c xs) (o : Obj) : Owns (w.alloc o) lo hi e s n a c xs := ⟨h.own.alloc o, h.lt⟩
theorem owns_set {w : World} {lo hi e s n : Nat} {a : Option Addr} {c : Nat} {xs : List Value} (h : Owns w lo hi e s n a c xs) {p : Addr} (hp : p.block < lo ∨ hi ≤ p.block) (u : Value) : Owns (w.setCell p u) lo hi e s n a c xs :=
  ⟨own_btw h.own (lo := p.block) (hi := p.block + 1) ((Between.refl _ _ _).set (Nat.le_refl _) (Nat.lt_succ_self _) u) fun k hk => by
    cases a with
    | none => simp [Value.ownBlock] at hk
    | some q =>
      simp only [Value.ownBlock, Option.some.injEq] at hk
      have h1 := h.lt q rfl
      have h2 := h.ge q rfl
      subst hk
      omega, h.lt⟩
theorem owns_wide {w : World} {lo hi lo' hi' e s n : Nat} {a : Option Addr} {c : Nat} {xs : List Value} (h : Owns w lo hi e s n a c xs) (h1 : lo' ≤ lo) (h2 : hi ≤ hi') : Owns w lo' hi' e s n a c xs := ⟨own_mono h.own h1, fun p hp => Nat.lt_of_lt_of_le (h.lt p hp) h2⟩
theorem owns_tight {w : World} {lo hi e s n g : Nat} {c : Nat} {xs : List Value} (h : Owns w lo hi e s n (some ⟨g, 0, none⟩) c xs) : Owns w g (g + 1) e s n (some ⟨g, 0, none⟩) c xs := by
  refine ⟨⟨h.own.1, ?_⟩, fun p hp => by cases hp; exact Nat.lt_succ_self _⟩
  rcases h.own.2 with ⟨hv, _⟩ | ⟨g', cap, cur, hv, hg, hh, r⟩
  · cases hv
  · cases hv
    exact .inr ⟨g, _, cur, rfl, Nat.le_refl _, hh, r⟩
theorem owns_after {w : World} {lo hi lo' hi' e s n : Nat} {a : Option Addr} {c : Nat} {xs : List Value} (x : After w lo' hi') (h : Owns w lo hi e s n a c xs) (ho : hi ≤ lo' ∨ hi' ≤ lo) : Owns x.w lo hi e s n a c xs := h.btw x.btw ho
theorem owns_later {w : World} {lo hi e s n : Nat} {a : Option Addr} {c : Nat} {xs : List Value} (x : Later w) (h : Owns w lo hi e s n a c xs) (ho : hi ≤ w.heap.size) : Owns x.w lo hi e s n a c xs := h.bel x.bel ho
theorem owns_drew {w : World} {lo hi e s n : Nat} {a : Option Addr} {c : Nat} {xs : List Value} (h : Owns w lo hi e s n a c xs) : Owns w.drew lo hi e s n a c xs := h.bel (B := hi) (Below.refl _ _).drew (Nat.le_refl _)
end Go.Proofs.YtfjlilpebhiogaaGreatDoor
