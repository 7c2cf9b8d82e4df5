import Derived.Test.YtkkhjbdnpobpnaaPts
import Derived.Test.YtkkhjbdnpobpnaaPackMa
/- The laws' copies of slices of points: size, copy, comparison, marks. -/
set_option linter.unusedSimpArgs false
set_option linter.unusedVariables false
namespace Go.Proofs.Ytkkhjbdnpobpnaa
open Go.RowKit
theorem info_pt : (Try.prog.info? 25).map (fun i => (i.zero, i.size, i.bytes)) = some (some (.agg #[.int .i64 0, .int .i64 0]), 2, 16) := by kernel_rfl
theorem ptsCells_append (L M : List Pt) : ptsCells (L ++ M) = ptsCells L ++ ptsCells M := by simp [ptsCells]
end Go.Proofs.Ytkkhjbdnpobpnaa
