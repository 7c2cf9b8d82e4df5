import Derived.Test.YtokbolgaokbdcaaDoorSgn
/- Romanisations, both sides. -/
set_option linter.unusedSimpArgs false
set_option linter.unusedVariables false
namespace Go.Proofs.YtokbolgaokbdcaaDoor
open Go.RowKit
theorem romL_zero (T : List Rul) (l : List Int) : romL T (l.take 0) = ByteArray.empty := by simp [romL]
end Go.Proofs.YtokbolgaokbdcaaDoor
