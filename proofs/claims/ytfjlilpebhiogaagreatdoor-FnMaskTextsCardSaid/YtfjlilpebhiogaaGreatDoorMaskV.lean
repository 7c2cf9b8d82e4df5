import Derived.Test.YtfjlilpebhiogaaGreatDoorMaskT
/- Unions, meetings and differences of two masks: the program's and the reference's. -/
set_option linter.unusedSimpArgs false
set_option linter.unusedVariables false
namespace Go.Proofs.YtfjlilpebhiogaaGreatDoor
open Go.RowKit
section
variable (x y W H x' y' W' H' : Int) (l l' : List Bool) (a a' : Option Addr) (n n' c c' : Nat) (w : World)
end

end Go.Proofs.YtfjlilpebhiogaaGreatDoor
