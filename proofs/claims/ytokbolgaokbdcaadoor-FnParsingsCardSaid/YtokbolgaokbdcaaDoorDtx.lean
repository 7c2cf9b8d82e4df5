import Derived.Test.YtokbolgaokbdcaaDoorDecP
import Derived.Test.YtokbolgaokbdcaaDoorRmn
import Derived.Test.YtokbolgaokbdcaaDoorPln
/- DecodeText and IsRecovered, both sides. -/
set_option linter.unusedSimpArgs false
set_option linter.unusedVariables false
namespace Go.Proofs.YtokbolgaokbdcaaDoor
open Go.RowKit
theorem textB_sizes {T : List Rul} {s : ByteArray} (h : textB T s = true) : tableB T = true ∧ s.size ≤ 48 := by
  unfold textB smallB at h
  simp only [Bool.and_eq_true, inB_iff] at h
  exact ⟨h.1, by omega⟩
end Go.Proofs.YtokbolgaokbdcaaDoor
