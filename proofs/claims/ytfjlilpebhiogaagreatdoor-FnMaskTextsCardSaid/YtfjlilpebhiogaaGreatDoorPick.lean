import Derived.Test.YtfjlilpebhiogaaGreatDoorIdx
import Derived.Test.YtfjlilpebhiogaaGreatDoorPackAb
/- Claims with some indices, and indices that a list does not have: what both sides speak of. -/
set_option linter.unusedSimpArgs false
set_option linter.unusedVariables false
namespace Go.Proofs.YtfjlilpebhiogaaGreatDoor
open Go.RowKit
/-- The claims with some indices. -/
def pick (L : List Clm) (S : List Int) : List Clm := S.filterMap fun i => L[i.toNat]?
/-- All are indices of a list of `n`. -/
def Within (n : Nat) (S : List Int) : Prop := ∀ x ∈ S, 0 ≤ x ∧ x < n
theorem Within.at_ {n : Nat} {S : List Int} (h : Within n S) {k : Nat} (hk : k < S.length) : 0 ≤ S[k] ∧ S[k] < n := h _ (List.getElem_mem hk)
theorem Within.sub {n : Nat} {S T : List Int} (h : Within n S) (hs : ∀ x ∈ T, x ∈ S) : Within n T := fun x hx => h x (hs x hx)
end Go.Proofs.YtfjlilpebhiogaaGreatDoor
