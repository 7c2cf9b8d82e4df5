import Derived.Test.YtflcfdiochohgaaGreatDoorPackC
import Derived.Test.YtflcfdiochohgaaGreatDoorPackAb
import Derived.Test.YtflcfdiochohgaaGreatDoorPackB
/- Several of my texts, one behind the other: All, Tab, TabR, AllR. -/
/- All cores that begin with some indices: the reference's side. -/
set_option linter.unusedSimpArgs false
set_option linter.unusedVariables false
namespace Go.Proofs.YtflcfdiochohgaaGreatDoor
open Go.RowKit
/-- The call handed back slices of its own, from a place on. -/
def RetNestAt (lo : Nat) (w : World) (S : List (List Int)) (e : Ending) (w' : World) : Prop :=
  ∃ (a : Option Addr) (c : Nat) (vs : List Value), e = .returned (.slice a S.length c) ∧ Nest w' lo w'.heap.size a S.length c S vs ∧ ∃ y : Later w, w' = y.w
theorem RetNestAt.mk' {lo : Nat} {w w' : World} {S : List (List Int)} {e : Ending} {a : Option Addr} {n c : Nat} {vs : List Value} (h : e = .returned (.slice a n c)) (hn : Nest w' lo w'.heap.size a n c S vs) (hb : Below w.heap.size w w') : RetNestAt lo w S e w' := by
  obtain rfl := hn.len
  exact ⟨a, c, vs, h, hn, ⟨w', hb⟩, rfl⟩
theorem ixs_len {n : Nat} {S : List Int} (h : Ixs n S) : S.length ≤ n := within_len n S h.nodup (fun x hx => h.bd x hx)
end Go.Proofs.YtflcfdiochohgaaGreatDoor

/- All cores, by number: impl.coresOf. -/
set_option linter.unusedSimpArgs false
set_option linter.unusedVariables false
namespace Go.Proofs.YtflcfdiochohgaaGreatDoor
open Go.RowKit
end Go.Proofs.YtflcfdiochohgaaGreatDoor

/- All minimal repairs, by number: impl.minimalRepairs. -/
set_option linter.unusedSimpArgs false
set_option linter.unusedVariables false
namespace Go.Proofs.YtflcfdiochohgaaGreatDoor
open Go.RowKit
end Go.Proofs.YtflcfdiochohgaaGreatDoor

/- All minimal repairs that begin with some indices: the reference's side. -/
set_option linter.unusedSimpArgs false
set_option linter.unusedVariables false
namespace Go.Proofs.YtflcfdiochohgaaGreatDoor
open Go.RowKit
end Go.Proofs.YtflcfdiochohgaaGreatDoor
