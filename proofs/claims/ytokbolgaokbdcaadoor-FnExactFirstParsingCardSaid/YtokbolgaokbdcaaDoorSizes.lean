import Derived.Test.YtokbolgaokbdcaaDoorBase
/- Sizes of the laws' arguments. -/
namespace Go.Proofs.YtokbolgaokbdcaaDoor
/-- What is left of `left` behind `S`, -1 if nothing is. -/
def szR (S left : Int) : Int := if left - S < 0 then -1 else left - S
theorem szR_no {S left : Int} (h : left - S < 0) : szR S left = -1 := if_pos h
theorem szR_yes {S left : Int} (h : ¬ left - S < 0) : szR S left = left - S := if_neg h
end Go.Proofs.YtokbolgaokbdcaaDoor
