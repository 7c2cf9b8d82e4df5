/-
  No cell of these rows narrows 'for every input' (looked for: loops, veiled, ifaces, maps, wideKeys, modest, calm, conditions, laid).
  DERIVED. THE GIVEN ROWS OF THIS SEAT. 10 by the template 'for every input the law returns true; each argument reads behind the call as it read before'; 0 by the template 'total and deterministic' (their statements: YtpblghjegbfjeaaTotals.lean).
  GIVEN WITH THE SEED: the statements are not yours to turn. If you find one false, say at which input.
  Laid BY PROGRAM, IN A SANDBOX (cutbox-rows.mjs): the forced cells as the released guide's own fill.sh prints them over the translation 5befd945c23b3354… (all of the seat's roots in one cut). By AI agents, Wed Nov 11 2026. No macro, syntax, notation, axiom, sorry.
-/
import Derived.Test.YtpblghjegbfjeaaChecked
import GoSem.Claim
import GoSem.ClaimJoined
import GoSem.ClaimMapViews
import Derived.JoinedTies
import Derived.KernelRfl
namespace Go.Proofs.Ytpblghjegbfjeaa
/- THE CELL 'sum', in the pinned program and in every row, IS THE sha256 OF THE DUMP (.gsa) THAT YtpblghjegbfjeaaProg.lean LOADS. Nothing in Lean hashes anything: it is a label: what it is worth is what the hold of that sum in a sandbox is worth. -/
noncomputable def Try.pinned : Pinned := { name := "ytpblghjegbfjeaa", sum := "5befd945c23b33549742d726adff9dd020d71681300c1d71b556f9ada39488f7", checked := Try.checked }
namespace Rows
def none {H : Type} : Left H := { results := [], args := [] }

/-- 'laws.FnExactIsMask': WHATEVER THE INPUT: true; the input reads as it did. -/
def fnExactIsMaskSpec : ChangeSpec := { name := "fnExactIsMask", fn := fun _ => fun
  | [d] => { results := [.lit (.bool true)], args := [d] }
  | _ => none }
def fnExactIsMaskRow : OpenClaim := { program := "ytpblghjegbfjeaa", sum := "5befd945c23b33549742d726adff9dd020d71681300c1d71b556f9ada39488f7", func := "loop.example/g01030/laws.FnExactIsMask", spec := "fnExactIsMask", apart := false }
def FnExactIsMaskSaid : Prop := fnExactIsMaskRow.holds Try.pinned (OpenSpec.ofChange fnExactIsMaskSpec)

/-- ITS FALSE NEIGHBOUR: 'it returns false'. Refute it at one input. -/
def fnExactIsMaskWrong : ChangeSpec := { name := "fnExactIsMask", fn := fun _ => fun
  | [d] => { results := [.lit (.bool false)], args := [d] }
  | _ => none }
def FnExactIsMaskWrongFalsely : Prop := fnExactIsMaskRow.holds Try.pinned (OpenSpec.ofChange fnExactIsMaskWrong)

/-- 'laws.FnExactCountPoints': WHATEVER THE INPUT: true; the input reads as it did. -/
def fnExactCountPointsSpec : ChangeSpec := { name := "fnExactCountPoints", fn := fun _ => fun
  | [d] => { results := [.lit (.bool true)], args := [d] }
  | _ => none }
def fnExactCountPointsRow : OpenClaim := { program := "ytpblghjegbfjeaa", sum := "5befd945c23b33549742d726adff9dd020d71681300c1d71b556f9ada39488f7", func := "loop.example/g01030/laws.FnExactCountPoints", spec := "fnExactCountPoints", apart := false }
def FnExactCountPointsSaid : Prop := fnExactCountPointsRow.holds Try.pinned (OpenSpec.ofChange fnExactCountPointsSpec)

/-- ITS FALSE NEIGHBOUR: 'it returns false'. Refute it at one input. -/
def fnExactCountPointsWrong : ChangeSpec := { name := "fnExactCountPoints", fn := fun _ => fun
  | [d] => { results := [.lit (.bool false)], args := [d] }
  | _ => none }
def FnExactCountPointsWrongFalsely : Prop := fnExactCountPointsRow.holds Try.pinned (OpenSpec.ofChange fnExactCountPointsWrong)

/-- 'laws.FnExactUnionOfMasks': WHATEVER THE INPUT: true; the input reads as it did. -/
def fnExactUnionOfMasksSpec : ChangeSpec := { name := "fnExactUnionOfMasks", fn := fun _ => fun
  | [d1, d2] => { results := [.lit (.bool true)], args := [d1, d2] }
  | _ => none }
def fnExactUnionOfMasksRow : OpenClaim := { program := "ytpblghjegbfjeaa", sum := "5befd945c23b33549742d726adff9dd020d71681300c1d71b556f9ada39488f7", func := "loop.example/g01030/laws.FnExactUnionOfMasks", spec := "fnExactUnionOfMasks", unfollowed := true, recurses := true, apart := false }
def FnExactUnionOfMasksSaid : Prop := fnExactUnionOfMasksRow.holds Try.pinned (OpenSpec.ofChange fnExactUnionOfMasksSpec)

/-- ITS FALSE NEIGHBOUR: 'it returns false'. Refute it at one input. -/
def fnExactUnionOfMasksWrong : ChangeSpec := { name := "fnExactUnionOfMasks", fn := fun _ => fun
  | [d1, d2] => { results := [.lit (.bool false)], args := [d1, d2] }
  | _ => none }
def FnExactUnionOfMasksWrongFalsely : Prop := fnExactUnionOfMasksRow.holds Try.pinned (OpenSpec.ofChange fnExactUnionOfMasksWrong)

/-- 'laws.FnExactWithoutMask': WHATEVER THE INPUT: true; the input reads as it did. -/
def fnExactWithoutMaskSpec : ChangeSpec := { name := "fnExactWithoutMask", fn := fun _ => fun
  | [d1, d2] => { results := [.lit (.bool true)], args := [d1, d2] }
  | _ => none }
def fnExactWithoutMaskRow : OpenClaim := { program := "ytpblghjegbfjeaa", sum := "5befd945c23b33549742d726adff9dd020d71681300c1d71b556f9ada39488f7", func := "loop.example/g01030/laws.FnExactWithoutMask", spec := "fnExactWithoutMask", unfollowed := true, recurses := true, apart := false }
def FnExactWithoutMaskSaid : Prop := fnExactWithoutMaskRow.holds Try.pinned (OpenSpec.ofChange fnExactWithoutMaskSpec)

/-- ITS FALSE NEIGHBOUR: 'it returns false'. Refute it at one input. -/
def fnExactWithoutMaskWrong : ChangeSpec := { name := "fnExactWithoutMask", fn := fun _ => fun
  | [d1, d2] => { results := [.lit (.bool false)], args := [d1, d2] }
  | _ => none }
def FnExactWithoutMaskWrongFalsely : Prop := fnExactWithoutMaskRow.holds Try.pinned (OpenSpec.ofChange fnExactWithoutMaskWrong)

/-- 'laws.FnExactMeetOfMasks': WHATEVER THE INPUT: true; the input reads as it did. -/
def fnExactMeetOfMasksSpec : ChangeSpec := { name := "fnExactMeetOfMasks", fn := fun _ => fun
  | [d1, d2] => { results := [.lit (.bool true)], args := [d1, d2] }
  | _ => none }
def fnExactMeetOfMasksRow : OpenClaim := { program := "ytpblghjegbfjeaa", sum := "5befd945c23b33549742d726adff9dd020d71681300c1d71b556f9ada39488f7", func := "loop.example/g01030/laws.FnExactMeetOfMasks", spec := "fnExactMeetOfMasks", unfollowed := true, recurses := true, apart := false }
def FnExactMeetOfMasksSaid : Prop := fnExactMeetOfMasksRow.holds Try.pinned (OpenSpec.ofChange fnExactMeetOfMasksSpec)

/-- ITS FALSE NEIGHBOUR: 'it returns false'. Refute it at one input. -/
def fnExactMeetOfMasksWrong : ChangeSpec := { name := "fnExactMeetOfMasks", fn := fun _ => fun
  | [d1, d2] => { results := [.lit (.bool false)], args := [d1, d2] }
  | _ => none }
def FnExactMeetOfMasksWrongFalsely : Prop := fnExactMeetOfMasksRow.holds Try.pinned (OpenSpec.ofChange fnExactMeetOfMasksWrong)

/-- 'laws.FnExactPieceAt': WHATEVER THE INPUT: true; the input reads as it did. -/
def fnExactPieceAtSpec : ChangeSpec := { name := "fnExactPieceAt", fn := fun _ => fun
  | [d1, d2] => { results := [.lit (.bool true)], args := [d1, d2] }
  | _ => none }
def fnExactPieceAtRow : OpenClaim := { program := "ytpblghjegbfjeaa", sum := "5befd945c23b33549742d726adff9dd020d71681300c1d71b556f9ada39488f7", func := "loop.example/g01030/laws.FnExactPieceAt", spec := "fnExactPieceAt", apart := false }
def FnExactPieceAtSaid : Prop := fnExactPieceAtRow.holds Try.pinned (OpenSpec.ofChange fnExactPieceAtSpec)

/-- ITS FALSE NEIGHBOUR: 'it returns false'. Refute it at one input. -/
def fnExactPieceAtWrong : ChangeSpec := { name := "fnExactPieceAt", fn := fun _ => fun
  | [d1, d2] => { results := [.lit (.bool false)], args := [d1, d2] }
  | _ => none }
def FnExactPieceAtWrongFalsely : Prop := fnExactPieceAtRow.holds Try.pinned (OpenSpec.ofChange fnExactPieceAtWrong)

/-- 'laws.FnExactPiecesOf': WHATEVER THE INPUT: true; the input reads as it did. -/
def fnExactPiecesOfSpec : ChangeSpec := { name := "fnExactPiecesOf", fn := fun _ => fun
  | [d] => { results := [.lit (.bool true)], args := [d] }
  | _ => none }
def fnExactPiecesOfRow : OpenClaim := { program := "ytpblghjegbfjeaa", sum := "5befd945c23b33549742d726adff9dd020d71681300c1d71b556f9ada39488f7", func := "loop.example/g01030/laws.FnExactPiecesOf", spec := "fnExactPiecesOf", apart := false }
def FnExactPiecesOfSaid : Prop := fnExactPiecesOfRow.holds Try.pinned (OpenSpec.ofChange fnExactPiecesOfSpec)

/-- ITS FALSE NEIGHBOUR: 'it returns false'. Refute it at one input. -/
def fnExactPiecesOfWrong : ChangeSpec := { name := "fnExactPiecesOf", fn := fun _ => fun
  | [d] => { results := [.lit (.bool false)], args := [d] }
  | _ => none }
def FnExactPiecesOfWrongFalsely : Prop := fnExactPiecesOfRow.holds Try.pinned (OpenSpec.ofChange fnExactPiecesOfWrong)

/-- 'laws.FnMasks': WHATEVER THE INPUT: true; the input reads as it did. -/
def fnMasksSpec : ChangeSpec := { name := "fnMasks", fn := fun _ => fun
  | [d] => { results := [.lit (.bool true)], args := [d] }
  | _ => none }
def fnMasksRow : OpenClaim := { program := "ytpblghjegbfjeaa", sum := "5befd945c23b33549742d726adff9dd020d71681300c1d71b556f9ada39488f7", func := "loop.example/g01030/laws.FnMasks", spec := "fnMasks", unfollowed := true, recurses := true, apart := false }
def FnMasksSaid : Prop := fnMasksRow.holds Try.pinned (OpenSpec.ofChange fnMasksSpec)

/-- ITS FALSE NEIGHBOUR: 'it returns false'. Refute it at one input. -/
def fnMasksWrong : ChangeSpec := { name := "fnMasks", fn := fun _ => fun
  | [d] => { results := [.lit (.bool false)], args := [d] }
  | _ => none }
def FnMasksWrongFalsely : Prop := fnMasksRow.holds Try.pinned (OpenSpec.ofChange fnMasksWrong)

/-- 'laws.FnExactMaskOfRing': WHATEVER THE INPUT: true; the input reads as it did. -/
def fnExactMaskOfRingSpec : ChangeSpec := { name := "fnExactMaskOfRing", fn := fun _ => fun
  | [d1, d2] => { results := [.lit (.bool true)], args := [d1, d2] }
  | _ => none }
def fnExactMaskOfRingRow : OpenClaim := { program := "ytpblghjegbfjeaa", sum := "5befd945c23b33549742d726adff9dd020d71681300c1d71b556f9ada39488f7", func := "loop.example/g01030/laws.FnExactMaskOfRing", spec := "fnExactMaskOfRing", unfollowed := true, recurses := true, apart := false }
def FnExactMaskOfRingSaid : Prop := fnExactMaskOfRingRow.holds Try.pinned (OpenSpec.ofChange fnExactMaskOfRingSpec)

/-- ITS FALSE NEIGHBOUR: 'it returns false'. Refute it at one input. -/
def fnExactMaskOfRingWrong : ChangeSpec := { name := "fnExactMaskOfRing", fn := fun _ => fun
  | [d1, d2] => { results := [.lit (.bool false)], args := [d1, d2] }
  | _ => none }
def FnExactMaskOfRingWrongFalsely : Prop := fnExactMaskOfRingRow.holds Try.pinned (OpenSpec.ofChange fnExactMaskOfRingWrong)

/-- 'laws.FnPieces': WHATEVER THE INPUT: true; the input reads as it did. -/
def fnPiecesSpec : ChangeSpec := { name := "fnPieces", fn := fun _ => fun
  | [d] => { results := [.lit (.bool true)], args := [d] }
  | _ => none }
def fnPiecesRow : OpenClaim := { program := "ytpblghjegbfjeaa", sum := "5befd945c23b33549742d726adff9dd020d71681300c1d71b556f9ada39488f7", func := "loop.example/g01030/laws.FnPieces", spec := "fnPieces", unfollowed := true, recurses := true, apart := false }
def FnPiecesSaid : Prop := fnPiecesRow.holds Try.pinned (OpenSpec.ofChange fnPiecesSpec)

/-- ITS FALSE NEIGHBOUR: 'it returns false'. Refute it at one input. -/
def fnPiecesWrong : ChangeSpec := { name := "fnPieces", fn := fun _ => fun
  | [d] => { results := [.lit (.bool false)], args := [d] }
  | _ => none }
def FnPiecesWrongFalsely : Prop := fnPiecesRow.holds Try.pinned (OpenSpec.ofChange fnPiecesWrong)

/- THE SECOND FORM. 'bulk': how many values and letters a reading holds, each counted each time it is reached (what is shared counts as often as it is met; a slice's spare places count too). A statement '..UptoSaid' is the law's where the arguments, and the package variables that the reading takes, are together of bulk at most 1048576: NARROWER than '..Said'. Prove '..Said' where nothing that the law and all that it calls make is longer than what came in: it says more and counts as full. Else prove '..UptoSaid'. A law counts once. -/
mutual
def uptoBulk {H : Type} : DataW H → Nat
  | .lit (.string bytes) => bytes.length + 1
  | .lit _ => 1
  | .nil => 1
  | .ptr d => uptoBulk d + 1
  | .slice elems spare => uptoBulkAll elems + uptoBulkAll spare + 1
  | .agg parts => uptoBulkAll parts + 1
  | .iface _ d => uptoBulk d + 1
  | .map entries => uptoBulkEntries entries + 1
  | .held _ => 1
def uptoBulkAll {H : Type} : List (DataW H) → Nat
  | [] => 0
  | d :: r => uptoBulk d + uptoBulkAll r
def uptoBulkEntries {H : Type} : List (Lit × DataW H) → Nat
  | [] => 0
  | x :: r => uptoBulkEntry x + uptoBulkEntries r
def uptoBulkEntry {H : Type} : Lit × DataW H → Nat
  | (.string bytes, d) => bytes.length + uptoBulk d + 1
  | (_, d) => uptoBulk d + 1
 end
def uptoSmall : (H : Type) → List (DataW H) → Bool := fun _ ds => decide (uptoBulkAll ds ≤ 1048576)
def OpenSpec.upto (s : _root_.Go.ChangeSpec) : _root_.Go.OpenSpec := { _root_.Go.OpenSpec.ofChange s with cond := some uptoSmall }

/-- 'laws.FnExactIsMask', WHERE WHAT IT READS IS OF BULK AT MOST 1048576: true; the input reads as it did. -/
def fnExactIsMaskUptoRow : OpenClaim := { program := "ytpblghjegbfjeaa", sum := "5befd945c23b33549742d726adff9dd020d71681300c1d71b556f9ada39488f7", func := "loop.example/g01030/laws.FnExactIsMask", spec := "fnExactIsMask", apart := false, narrowed := true }
def FnExactIsMaskUptoSaid : Prop := fnExactIsMaskUptoRow.holds Try.pinned (OpenSpec.upto fnExactIsMaskSpec)

/-- 'laws.FnExactCountPoints', WHERE WHAT IT READS IS OF BULK AT MOST 1048576: true; the input reads as it did. -/
def fnExactCountPointsUptoRow : OpenClaim := { program := "ytpblghjegbfjeaa", sum := "5befd945c23b33549742d726adff9dd020d71681300c1d71b556f9ada39488f7", func := "loop.example/g01030/laws.FnExactCountPoints", spec := "fnExactCountPoints", apart := false, narrowed := true }
def FnExactCountPointsUptoSaid : Prop := fnExactCountPointsUptoRow.holds Try.pinned (OpenSpec.upto fnExactCountPointsSpec)

/-- 'laws.FnExactUnionOfMasks', WHERE WHAT IT READS IS OF BULK AT MOST 1048576: true; the input reads as it did. -/
def fnExactUnionOfMasksUptoRow : OpenClaim := { program := "ytpblghjegbfjeaa", sum := "5befd945c23b33549742d726adff9dd020d71681300c1d71b556f9ada39488f7", func := "loop.example/g01030/laws.FnExactUnionOfMasks", spec := "fnExactUnionOfMasks", unfollowed := true, recurses := true, apart := false, narrowed := true }
def FnExactUnionOfMasksUptoSaid : Prop := fnExactUnionOfMasksUptoRow.holds Try.pinned (OpenSpec.upto fnExactUnionOfMasksSpec)

/-- 'laws.FnExactWithoutMask', WHERE WHAT IT READS IS OF BULK AT MOST 1048576: true; the input reads as it did. -/
def fnExactWithoutMaskUptoRow : OpenClaim := { program := "ytpblghjegbfjeaa", sum := "5befd945c23b33549742d726adff9dd020d71681300c1d71b556f9ada39488f7", func := "loop.example/g01030/laws.FnExactWithoutMask", spec := "fnExactWithoutMask", unfollowed := true, recurses := true, apart := false, narrowed := true }
def FnExactWithoutMaskUptoSaid : Prop := fnExactWithoutMaskUptoRow.holds Try.pinned (OpenSpec.upto fnExactWithoutMaskSpec)

/-- 'laws.FnExactMeetOfMasks', WHERE WHAT IT READS IS OF BULK AT MOST 1048576: true; the input reads as it did. -/
def fnExactMeetOfMasksUptoRow : OpenClaim := { program := "ytpblghjegbfjeaa", sum := "5befd945c23b33549742d726adff9dd020d71681300c1d71b556f9ada39488f7", func := "loop.example/g01030/laws.FnExactMeetOfMasks", spec := "fnExactMeetOfMasks", unfollowed := true, recurses := true, apart := false, narrowed := true }
def FnExactMeetOfMasksUptoSaid : Prop := fnExactMeetOfMasksUptoRow.holds Try.pinned (OpenSpec.upto fnExactMeetOfMasksSpec)

/-- 'laws.FnExactPieceAt', WHERE WHAT IT READS IS OF BULK AT MOST 1048576: true; the input reads as it did. -/
def fnExactPieceAtUptoRow : OpenClaim := { program := "ytpblghjegbfjeaa", sum := "5befd945c23b33549742d726adff9dd020d71681300c1d71b556f9ada39488f7", func := "loop.example/g01030/laws.FnExactPieceAt", spec := "fnExactPieceAt", apart := false, narrowed := true }
def FnExactPieceAtUptoSaid : Prop := fnExactPieceAtUptoRow.holds Try.pinned (OpenSpec.upto fnExactPieceAtSpec)

/-- 'laws.FnExactPiecesOf', WHERE WHAT IT READS IS OF BULK AT MOST 1048576: true; the input reads as it did. -/
def fnExactPiecesOfUptoRow : OpenClaim := { program := "ytpblghjegbfjeaa", sum := "5befd945c23b33549742d726adff9dd020d71681300c1d71b556f9ada39488f7", func := "loop.example/g01030/laws.FnExactPiecesOf", spec := "fnExactPiecesOf", apart := false, narrowed := true }
def FnExactPiecesOfUptoSaid : Prop := fnExactPiecesOfUptoRow.holds Try.pinned (OpenSpec.upto fnExactPiecesOfSpec)

/-- 'laws.FnMasks', WHERE WHAT IT READS IS OF BULK AT MOST 1048576: true; the input reads as it did. -/
def fnMasksUptoRow : OpenClaim := { program := "ytpblghjegbfjeaa", sum := "5befd945c23b33549742d726adff9dd020d71681300c1d71b556f9ada39488f7", func := "loop.example/g01030/laws.FnMasks", spec := "fnMasks", unfollowed := true, recurses := true, apart := false, narrowed := true }
def FnMasksUptoSaid : Prop := fnMasksUptoRow.holds Try.pinned (OpenSpec.upto fnMasksSpec)

/-- 'laws.FnExactMaskOfRing', WHERE WHAT IT READS IS OF BULK AT MOST 1048576: true; the input reads as it did. -/
def fnExactMaskOfRingUptoRow : OpenClaim := { program := "ytpblghjegbfjeaa", sum := "5befd945c23b33549742d726adff9dd020d71681300c1d71b556f9ada39488f7", func := "loop.example/g01030/laws.FnExactMaskOfRing", spec := "fnExactMaskOfRing", unfollowed := true, recurses := true, apart := false, narrowed := true }
def FnExactMaskOfRingUptoSaid : Prop := fnExactMaskOfRingUptoRow.holds Try.pinned (OpenSpec.upto fnExactMaskOfRingSpec)

/-- 'laws.FnPieces', WHERE WHAT IT READS IS OF BULK AT MOST 1048576: true; the input reads as it did. -/
def fnPiecesUptoRow : OpenClaim := { program := "ytpblghjegbfjeaa", sum := "5befd945c23b33549742d726adff9dd020d71681300c1d71b556f9ada39488f7", func := "loop.example/g01030/laws.FnPieces", spec := "fnPieces", unfollowed := true, recurses := true, apart := false, narrowed := true }
def FnPiecesUptoSaid : Prop := fnPiecesUptoRow.holds Try.pinned (OpenSpec.upto fnPiecesSpec)

end Rows
end Go.Proofs.Ytpblghjegbfjeaa
