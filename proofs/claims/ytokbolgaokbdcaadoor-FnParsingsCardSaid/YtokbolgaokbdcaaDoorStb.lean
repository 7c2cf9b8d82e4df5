import Derived.Test.YtokbolgaokbdcaaDoorSgn
import Derived.Test.YtokbolgaokbdcaaDoorFirstS
/- Stable parsings and decoding, both sides. -/
set_option linter.unusedSimpArgs false
set_option linter.unusedVariables false
namespace Go.Proofs.YtokbolgaokbdcaaDoor
open Go.RowKit
def noRomAt (T : List Rul) (i : Int) : Bool := match T[i.toNat]? with
  | some r => noRom r
  | none => false
/-- The rules at these places are a stable parsing. -/
def stb (T : List Rul) (l : List Int) : Bool := decide (0 < l.length) && !(l.any (noRomAt T)) && decide ((signsL T l).length ≤ 12) && (used T (signsL T l)).isSome && (usL (used T (signsL T l)) == l)
end Go.Proofs.YtokbolgaokbdcaaDoor
