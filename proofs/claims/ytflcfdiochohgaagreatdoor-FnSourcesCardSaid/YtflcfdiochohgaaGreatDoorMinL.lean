import Derived.Test.YtflcfdiochohgaaGreatDoorPackE
import Derived.Test.YtflcfdiochohgaaGreatDoorPackF
import Derived.Test.YtflcfdiochohgaaGreatDoorPairs
/- Repairs and cores in the laws that draw: the plain law. -/
set_option linter.unusedSimpArgs false
set_option linter.unusedVariables false
namespace Go.Proofs.YtflcfdiochohgaaGreatDoor
/-! ### Codes -/
theorem risesB_of {l : List Int} {n : Nat} (h : Ixs n l) : risesB l n = true := risesB_true h.rises
theorem codeZ_ixs {L : List Clm} {l : List Int} (hv : claimsB L = true) (h : Ixs L.length l) : codeZ L l = 0 := by
  unfold codeZ
  rw [hv, risesB_of h]
  rfl
end Go.Proofs.YtflcfdiochohgaaGreatDoor
