import Derived.Test.YtflcfdiochohgaaGreatDoorPackB
import Derived.Test.YtflcfdiochohgaaGreatDoorPackAb
import Derived.Test.YtflcfdiochohgaaGreatDoorPackA
import Derived.StillTailTactics
import Derived.Test.YtflcfdiochohgaaGreatDoorPackD
/- Several of my texts, one behind the other: MinF, QTail, MinG. -/
/- slices.MinFunc over slices of numbers, cmp.Compare, cmp.Or. -/
set_option linter.unusedSimpArgs false
set_option linter.unusedVariables false
namespace Go.Proofs.YtflcfdiochohgaaGreatDoor
open Go.RowKit
/-- Slices of slices of numbers, with the values that hold them. -/
structure RowsV (w : World) (a : Option Addr) (S : List (List Int)) (vs : List Value) : Prop where
  len : vs.length = S.length
  row : Row w a vs
  at_ : ∀ i (h : i < S.length), ∃ ai ci, vs[i]? = some (.slice ai S[i].length ci) ∧ Row w ai (intCells S[i])
theorem RowsV.bel {w w' : World} {a : Option Addr} {S : List (List Int)} {vs : List Value} (h : RowsV w a S vs) (hb : Below w.heap.size w w') : RowsV w' a S vs :=
  ⟨h.len, h.row.bel hb, fun i hi => by
    obtain ⟨ai, ci, h4, h5⟩ := h.at_ i hi
    exact ⟨ai, ci, h4, h5.bel hb⟩⟩
end Go.Proofs.YtflcfdiochohgaaGreatDoor

/- A drawn region whose first operations read or call quietly, in any order, before a chain of others. -/
set_option linter.unusedSimpArgs false
set_option linter.unusedVariables false
namespace Go.Proofs.YtflcfdiochohgaaGreatDoor
open Go.RowKit
section
variable {P : Program} {ops : Array Oper} {C : World → Prop} {md : Region.Mode}
end
end Go.Proofs.YtflcfdiochohgaaGreatDoor

/- cmp.Or; the comparisons of SmallestCore and BestRepair; the best of a table. -/
set_option linter.unusedSimpArgs false
set_option linter.unusedVariables false
namespace Go.Proofs.YtflcfdiochohgaaGreatDoor
open Go.RowKit
end Go.Proofs.YtflcfdiochohgaaGreatDoor
