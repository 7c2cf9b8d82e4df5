/-
  NARROWER THAN 'FOR EVERY INPUT', by the rows' own cells (each row's printed sentence says how): FnExactDisputedRings: laid · FnExactBorderOf: laid · FnExactClaimantsOf: laid · FnViews: laid · FnOwners: laid.
  DERIVED. THE GIVEN ROWS OF THIS SEAT. 5 by the template 'for every input the law returns true; each argument reads behind the call as it read before'; 0 by the template 'total and deterministic' (their statements: YtklcaphkfdlipaaGreatDoorTotals.lean).
  GIVEN WITH THE SEED: the statements are not yours to turn. If you find one false, say at which input.
  Laid BY PROGRAM, IN A SANDBOX (cutbox-rows.mjs): the forced cells as the released guide's own fill.sh prints them over the translation 0a4dcffbbfcefdb7… (all of the seat's roots in one cut). By AI agents, Wed Nov 11 2026. No macro, syntax, notation, axiom, sorry.
-/
import Derived.Test.YtklcaphkfdlipaaGreatDoorChecked
import GoSem.PinnedTables
import GoSem.Claim
import GoSem.ClaimJoined
import GoSem.ClaimMapViews
import Derived.JoinedTies
import Derived.KernelRfl
namespace Go.Proofs.YtklcaphkfdlipaaGreatDoor
/- THE CELL 'sum', in the pinned program and in every row, IS THE sha256 OF THE DUMP (.gsa) THAT YtklcaphkfdlipaaGreatDoorProg.lean LOADS. Nothing in Lean hashes anything: it is a label: what it is worth is what the hold of that sum in a sandbox is worth. -/
noncomputable def Tryz.pinned : Pinned := { name := "ytklcaphkfdlipaagreatdoor", sum := "0a4dcffbbfcefdb797e6457afff73308615e0ecc2bce1994447ae9e8345a663d", checked := Tryz.checked }
namespace Rows
def none {H : Type} : Left H := { results := [], args := [] }

/- WHAT THE LISTED PACKAGE-LEVEL VARIABLES READ AS WHEN THE CALL BEGINS. Each datum BY PROGRAM (the guide's laid-datum.mjs) off the statement by which the dump's own 'gosem.cut.vars' lays the variable. In a bare row this is a premise. The card (YtklcaphkfdlipaaGreatDoorCards.lean) ties it to the program's text. -/
def laid_unicode_utf8_acceptRanges {H : Type} : DataW H := .agg [.agg [.lit (.int .u8 128), .lit (.int .u8 191)], .agg [.lit (.int .u8 160), .lit (.int .u8 191)], .agg [.lit (.int .u8 128), .lit (.int .u8 159)], .agg [.lit (.int .u8 144), .lit (.int .u8 191)], .agg [.lit (.int .u8 128), .lit (.int .u8 143)], .agg [.lit (.int .u8 0), .lit (.int .u8 0)], .agg [.lit (.int .u8 0), .lit (.int .u8 0)], .agg [.lit (.int .u8 0), .lit (.int .u8 0)], .agg [.lit (.int .u8 0), .lit (.int .u8 0)], .agg [.lit (.int .u8 0), .lit (.int .u8 0)], .agg [.lit (.int .u8 0), .lit (.int .u8 0)], .agg [.lit (.int .u8 0), .lit (.int .u8 0)], .agg [.lit (.int .u8 0), .lit (.int .u8 0)], .agg [.lit (.int .u8 0), .lit (.int .u8 0)], .agg [.lit (.int .u8 0), .lit (.int .u8 0)], .agg [.lit (.int .u8 0), .lit (.int .u8 0)]]
/-- One of Go's own tables, pinned by name: the form's constant. -/
def laid_unicode_utf8_first : DataW Unit := Go.Pinned.utf8First

/-- 'laws.FnExactDisputedRings': WHATEVER THE INPUT: true; the input reads as it did. -/
def fnExactDisputedRingsSpec : ChangeSpec := { name := "fnExactDisputedRings", fn := fun _ => fun
  | [d1, d2] => { results := [.lit (.bool true)], args := [d1, d2] }
  | _ => none }
def fnExactDisputedRingsRow : OpenClaim := { program := "ytklcaphkfdlipaagreatdoor", sum := "0a4dcffbbfcefdb797e6457afff73308615e0ecc2bce1994447ae9e8345a663d", func := "loop.example/g01030/laws.FnExactDisputedRings", spec := "fnExactDisputedRings", inPlace := ["internal/bytealg.IndexByteString", "internal/bytealg.IndexString"], unfollowed := true, recurses := true, named := ["unicode/utf8.first", "unicode/utf8.acceptRanges", "internal/bytealg.MaxLen"], apart := false, laid := [("unicode/utf8.acceptRanges", laid_unicode_utf8_acceptRanges), ("unicode/utf8.first", laid_unicode_utf8_first)] }
def FnExactDisputedRingsSaid : Prop := fnExactDisputedRingsRow.holds Tryz.pinned (OpenSpec.ofChange fnExactDisputedRingsSpec)

/-- ITS FALSE NEIGHBOUR: 'it returns false'. Refute it at one input. -/
def fnExactDisputedRingsWrong : ChangeSpec := { name := "fnExactDisputedRings", fn := fun _ => fun
  | [d1, d2] => { results := [.lit (.bool false)], args := [d1, d2] }
  | _ => none }
def FnExactDisputedRingsWrongFalsely : Prop := fnExactDisputedRingsRow.holds Tryz.pinned (OpenSpec.ofChange fnExactDisputedRingsWrong)

/-- 'laws.FnExactBorderOf': WHATEVER THE INPUT: true; the input reads as it did. -/
def fnExactBorderOfSpec : ChangeSpec := { name := "fnExactBorderOf", fn := fun _ => fun
  | [d1, d2, d3, d4] => { results := [.lit (.bool true)], args := [d1, d2, d3, d4] }
  | _ => none }
def fnExactBorderOfRow : OpenClaim := { program := "ytklcaphkfdlipaagreatdoor", sum := "0a4dcffbbfcefdb797e6457afff73308615e0ecc2bce1994447ae9e8345a663d", func := "loop.example/g01030/laws.FnExactBorderOf", spec := "fnExactBorderOf", inPlace := ["internal/bytealg.IndexByteString", "internal/bytealg.IndexString"], unfollowed := true, recurses := true, named := ["unicode/utf8.first", "unicode/utf8.acceptRanges", "internal/bytealg.MaxLen"], apart := false, laid := [("unicode/utf8.acceptRanges", laid_unicode_utf8_acceptRanges), ("unicode/utf8.first", laid_unicode_utf8_first)] }
def FnExactBorderOfSaid : Prop := fnExactBorderOfRow.holds Tryz.pinned (OpenSpec.ofChange fnExactBorderOfSpec)

/-- ITS FALSE NEIGHBOUR: 'it returns false'. Refute it at one input. -/
def fnExactBorderOfWrong : ChangeSpec := { name := "fnExactBorderOf", fn := fun _ => fun
  | [d1, d2, d3, d4] => { results := [.lit (.bool false)], args := [d1, d2, d3, d4] }
  | _ => none }
def FnExactBorderOfWrongFalsely : Prop := fnExactBorderOfRow.holds Tryz.pinned (OpenSpec.ofChange fnExactBorderOfWrong)

/-- 'laws.FnExactClaimantsOf': WHATEVER THE INPUT: true; the input reads as it did. -/
def fnExactClaimantsOfSpec : ChangeSpec := { name := "fnExactClaimantsOf", fn := fun _ => fun
  | [d1, d2, d3] => { results := [.lit (.bool true)], args := [d1, d2, d3] }
  | _ => none }
def fnExactClaimantsOfRow : OpenClaim := { program := "ytklcaphkfdlipaagreatdoor", sum := "0a4dcffbbfcefdb797e6457afff73308615e0ecc2bce1994447ae9e8345a663d", func := "loop.example/g01030/laws.FnExactClaimantsOf", spec := "fnExactClaimantsOf", inPlace := ["internal/bytealg.IndexByteString", "internal/bytealg.IndexString"], unfollowed := true, recurses := true, named := ["unicode/utf8.first", "unicode/utf8.acceptRanges", "internal/bytealg.MaxLen"], apart := false, laid := [("unicode/utf8.acceptRanges", laid_unicode_utf8_acceptRanges), ("unicode/utf8.first", laid_unicode_utf8_first)] }
def FnExactClaimantsOfSaid : Prop := fnExactClaimantsOfRow.holds Tryz.pinned (OpenSpec.ofChange fnExactClaimantsOfSpec)

/-- ITS FALSE NEIGHBOUR: 'it returns false'. Refute it at one input. -/
def fnExactClaimantsOfWrong : ChangeSpec := { name := "fnExactClaimantsOf", fn := fun _ => fun
  | [d1, d2, d3] => { results := [.lit (.bool false)], args := [d1, d2, d3] }
  | _ => none }
def FnExactClaimantsOfWrongFalsely : Prop := fnExactClaimantsOfRow.holds Tryz.pinned (OpenSpec.ofChange fnExactClaimantsOfWrong)

/-- 'laws.FnViews': WHATEVER THE INPUT: true; the input reads as it did. -/
def fnViewsSpec : ChangeSpec := { name := "fnViews", fn := fun _ => fun
  | [d] => { results := [.lit (.bool true)], args := [d] }
  | _ => none }
def fnViewsRow : OpenClaim := { program := "ytklcaphkfdlipaagreatdoor", sum := "0a4dcffbbfcefdb797e6457afff73308615e0ecc2bce1994447ae9e8345a663d", func := "loop.example/g01030/laws.FnViews", spec := "fnViews", inPlace := ["internal/bytealg.IndexByteString", "internal/bytealg.IndexString"], unfollowed := true, recurses := true, named := ["unicode/utf8.first", "unicode/utf8.acceptRanges", "internal/bytealg.MaxLen"], apart := false, laid := [("unicode/utf8.acceptRanges", laid_unicode_utf8_acceptRanges), ("unicode/utf8.first", laid_unicode_utf8_first)] }
def FnViewsSaid : Prop := fnViewsRow.holds Tryz.pinned (OpenSpec.ofChange fnViewsSpec)

/-- ITS FALSE NEIGHBOUR: 'it returns false'. Refute it at one input. -/
def fnViewsWrong : ChangeSpec := { name := "fnViews", fn := fun _ => fun
  | [d] => { results := [.lit (.bool false)], args := [d] }
  | _ => none }
def FnViewsWrongFalsely : Prop := fnViewsRow.holds Tryz.pinned (OpenSpec.ofChange fnViewsWrong)

/-- 'laws.FnOwners': WHATEVER THE INPUT: true; the input reads as it did. -/
def fnOwnersSpec : ChangeSpec := { name := "fnOwners", fn := fun _ => fun
  | [d] => { results := [.lit (.bool true)], args := [d] }
  | _ => none }
def fnOwnersRow : OpenClaim := { program := "ytklcaphkfdlipaagreatdoor", sum := "0a4dcffbbfcefdb797e6457afff73308615e0ecc2bce1994447ae9e8345a663d", func := "loop.example/g01030/laws.FnOwners", spec := "fnOwners", inPlace := ["internal/bytealg.IndexByteString", "internal/bytealg.IndexString"], unfollowed := true, recurses := true, named := ["unicode/utf8.first", "unicode/utf8.acceptRanges", "internal/bytealg.MaxLen"], apart := false, laid := [("unicode/utf8.acceptRanges", laid_unicode_utf8_acceptRanges), ("unicode/utf8.first", laid_unicode_utf8_first)] }
def FnOwnersSaid : Prop := fnOwnersRow.holds Tryz.pinned (OpenSpec.ofChange fnOwnersSpec)

/-- ITS FALSE NEIGHBOUR: 'it returns false'. Refute it at one input. -/
def fnOwnersWrong : ChangeSpec := { name := "fnOwners", fn := fun _ => fun
  | [d] => { results := [.lit (.bool false)], args := [d] }
  | _ => none }
def FnOwnersWrongFalsely : Prop := fnOwnersRow.holds Tryz.pinned (OpenSpec.ofChange fnOwnersWrong)

/- THE SECOND FORM. 'bulk': how many values and letters a reading holds, each counted each time it is reached (what is shared counts as often as it is met; a slice's spare places count too). A statement '..UptoSaid' is the law's where the arguments, and the package variables that the reading takes, are together of bulk at most 1048576: NARROWER than '..Said'. Prove '..Said' where nothing that the law and all that it calls make is longer than what came in: it says more and counts as full. Else prove '..UptoSaid'. A law counts once. -/
mutual
def uptoBulk {H : Type} : DataW H → Nat
  | .lit (.string bytes) => bytes.length + 1
  | .lit _ => 1
  | .nil => 1
  | .ptr d => uptoBulk d + 1
  | .slice elems spare => uptoBulkAll elems + uptoBulkAll spare + 1
  | .agg parts => uptoBulkAll parts + 1
  | .iface _ d => uptoBulk d + 1
  | .map entries => uptoBulkEntries entries + 1
  | .held _ => 1
def uptoBulkAll {H : Type} : List (DataW H) → Nat
  | [] => 0
  | d :: r => uptoBulk d + uptoBulkAll r
def uptoBulkEntries {H : Type} : List (Lit × DataW H) → Nat
  | [] => 0
  | x :: r => uptoBulkEntry x + uptoBulkEntries r
def uptoBulkEntry {H : Type} : Lit × DataW H → Nat
  | (.string bytes, d) => bytes.length + uptoBulk d + 1
  | (_, d) => uptoBulk d + 1
 end
def uptoSmall : (H : Type) → List (DataW H) → Bool := fun _ ds => decide (uptoBulkAll ds ≤ 1048576)
def OpenSpec.upto (s : _root_.Go.ChangeSpec) : _root_.Go.OpenSpec := { _root_.Go.OpenSpec.ofChange s with cond := some uptoSmall }

/-- 'laws.FnExactDisputedRings', WHERE WHAT IT READS IS OF BULK AT MOST 1048576: true; the input reads as it did. -/
def fnExactDisputedRingsUptoRow : OpenClaim := { program := "ytklcaphkfdlipaagreatdoor", sum := "0a4dcffbbfcefdb797e6457afff73308615e0ecc2bce1994447ae9e8345a663d", func := "loop.example/g01030/laws.FnExactDisputedRings", spec := "fnExactDisputedRings", inPlace := ["internal/bytealg.IndexByteString", "internal/bytealg.IndexString"], unfollowed := true, recurses := true, named := ["unicode/utf8.first", "unicode/utf8.acceptRanges", "internal/bytealg.MaxLen"], apart := false, laid := [("unicode/utf8.acceptRanges", laid_unicode_utf8_acceptRanges), ("unicode/utf8.first", laid_unicode_utf8_first)], narrowed := true }
def FnExactDisputedRingsUptoSaid : Prop := fnExactDisputedRingsUptoRow.holds Tryz.pinned (OpenSpec.upto fnExactDisputedRingsSpec)

/-- 'laws.FnExactBorderOf', WHERE WHAT IT READS IS OF BULK AT MOST 1048576: true; the input reads as it did. -/
def fnExactBorderOfUptoRow : OpenClaim := { program := "ytklcaphkfdlipaagreatdoor", sum := "0a4dcffbbfcefdb797e6457afff73308615e0ecc2bce1994447ae9e8345a663d", func := "loop.example/g01030/laws.FnExactBorderOf", spec := "fnExactBorderOf", inPlace := ["internal/bytealg.IndexByteString", "internal/bytealg.IndexString"], unfollowed := true, recurses := true, named := ["unicode/utf8.first", "unicode/utf8.acceptRanges", "internal/bytealg.MaxLen"], apart := false, laid := [("unicode/utf8.acceptRanges", laid_unicode_utf8_acceptRanges), ("unicode/utf8.first", laid_unicode_utf8_first)], narrowed := true }
def FnExactBorderOfUptoSaid : Prop := fnExactBorderOfUptoRow.holds Tryz.pinned (OpenSpec.upto fnExactBorderOfSpec)

/-- 'laws.FnExactClaimantsOf', WHERE WHAT IT READS IS OF BULK AT MOST 1048576: true; the input reads as it did. -/
def fnExactClaimantsOfUptoRow : OpenClaim := { program := "ytklcaphkfdlipaagreatdoor", sum := "0a4dcffbbfcefdb797e6457afff73308615e0ecc2bce1994447ae9e8345a663d", func := "loop.example/g01030/laws.FnExactClaimantsOf", spec := "fnExactClaimantsOf", inPlace := ["internal/bytealg.IndexByteString", "internal/bytealg.IndexString"], unfollowed := true, recurses := true, named := ["unicode/utf8.first", "unicode/utf8.acceptRanges", "internal/bytealg.MaxLen"], apart := false, laid := [("unicode/utf8.acceptRanges", laid_unicode_utf8_acceptRanges), ("unicode/utf8.first", laid_unicode_utf8_first)], narrowed := true }
def FnExactClaimantsOfUptoSaid : Prop := fnExactClaimantsOfUptoRow.holds Tryz.pinned (OpenSpec.upto fnExactClaimantsOfSpec)

/-- 'laws.FnViews', WHERE WHAT IT READS IS OF BULK AT MOST 1048576: true; the input reads as it did. -/
def fnViewsUptoRow : OpenClaim := { program := "ytklcaphkfdlipaagreatdoor", sum := "0a4dcffbbfcefdb797e6457afff73308615e0ecc2bce1994447ae9e8345a663d", func := "loop.example/g01030/laws.FnViews", spec := "fnViews", inPlace := ["internal/bytealg.IndexByteString", "internal/bytealg.IndexString"], unfollowed := true, recurses := true, named := ["unicode/utf8.first", "unicode/utf8.acceptRanges", "internal/bytealg.MaxLen"], apart := false, laid := [("unicode/utf8.acceptRanges", laid_unicode_utf8_acceptRanges), ("unicode/utf8.first", laid_unicode_utf8_first)], narrowed := true }
def FnViewsUptoSaid : Prop := fnViewsUptoRow.holds Tryz.pinned (OpenSpec.upto fnViewsSpec)

/-- 'laws.FnOwners', WHERE WHAT IT READS IS OF BULK AT MOST 1048576: true; the input reads as it did. -/
def fnOwnersUptoRow : OpenClaim := { program := "ytklcaphkfdlipaagreatdoor", sum := "0a4dcffbbfcefdb797e6457afff73308615e0ecc2bce1994447ae9e8345a663d", func := "loop.example/g01030/laws.FnOwners", spec := "fnOwners", inPlace := ["internal/bytealg.IndexByteString", "internal/bytealg.IndexString"], unfollowed := true, recurses := true, named := ["unicode/utf8.first", "unicode/utf8.acceptRanges", "internal/bytealg.MaxLen"], apart := false, laid := [("unicode/utf8.acceptRanges", laid_unicode_utf8_acceptRanges), ("unicode/utf8.first", laid_unicode_utf8_first)], narrowed := true }
def FnOwnersUptoSaid : Prop := fnOwnersUptoRow.holds Tryz.pinned (OpenSpec.upto fnOwnersSpec)

end Rows
end Go.Proofs.YtklcaphkfdlipaaGreatDoor
