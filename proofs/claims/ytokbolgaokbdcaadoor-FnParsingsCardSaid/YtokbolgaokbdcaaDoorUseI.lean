import Derived.Test.YtokbolgaokbdcaaDoorPackPb
import Derived.Test.YtokbolgaokbdcaaDoorPackPa
/- Which rules are used, both sides. -/
set_option linter.unusedSimpArgs false
set_option linter.unusedVariables false
namespace Go.Proofs.YtokbolgaokbdcaaDoor
open Go.RowKit
def usL (o : Option (List Int)) : List Int := o.getD []
theorem one_intU (x : Int) : ∀ u ∈ [Value.int .i64 x], u.oneCell' = true := by intro u hu; simp at hu; subst hu; rfl
end Go.Proofs.YtokbolgaokbdcaaDoor
