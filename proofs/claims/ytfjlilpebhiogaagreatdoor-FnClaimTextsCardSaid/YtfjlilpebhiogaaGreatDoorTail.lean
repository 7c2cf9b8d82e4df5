import Derived.Test.YtfjlilpebhiogaaGreatDoorPackA
import Derived.StillTailTactics
/- A drawn region that reads (no calls) before one writing operation. -/
set_option linter.unusedSimpArgs false
set_option linter.unusedVariables false
namespace Go.Proofs.YtfjlilpebhiogaaGreatDoor
open Go.RowKit
theorem Owns.drew {w : World} {lo hi e s n : Nat} {a : Option Addr} {c : Nat} {xs : List Value} (h : Owns w lo hi e s n a c xs) : Owns w.drew lo hi e s n a c xs := h.bel (B := hi) (Below.refl _ _).drew (Nat.le_refl _)
end Go.Proofs.YtfjlilpebhiogaaGreatDoor
