import Derived.Test.YtfjlilpebhiogaaGreatDoorMRdJ
import Derived.Test.YtfjlilpebhiogaaGreatDoorMRdT
import Derived.Test.YtfjlilpebhiogaaGreatDoorMaskW
/- The law ReadMask. -/
set_option linter.unusedSimpArgs false
set_option linter.unusedVariables false
namespace Go.Proofs.YtfjlilpebhiogaaGreatDoor
open Go.RowKit
theorem RdM.len {s : ByteArray} {X Y W H code : Int} {L : List Bool} (h : RdM s X Y W H code L) : L.length ≤ 1048576 := by
  rcases h with ⟨Wn, Hn, -, -, -, hm⟩ | ⟨-, -, -, -, -, -, rfl⟩
  · obtain ⟨d1, d2, d3, d4, d5, d6⟩ := mask_dims hm.1
    have := Nat.mul_le_mul d4 d2
    omega
  · simp
end Go.Proofs.YtfjlilpebhiogaaGreatDoor
