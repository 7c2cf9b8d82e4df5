/-
  NARROWER THAN 'FOR EVERY INPUT', by the rows' own cells (each row's printed sentence says how): FnExactIsMinimalRepair: laid · FnExactCoreWithin: laid · FnExactShrinkRepair: laid · FnExactSourcesOf: laid · FnExactLeastRemoved: laid · FnExactInCores: laid · FnExactCoresOf: laid · FnExactSmallestCore: laid · FnExactAlwaysKept: laid · FnExactMinimalRepairs: laid · FnExactSmallestSources: laid · FnExactBestRepair: laid.
  DERIVED. THE GIVEN ROWS OF THIS SEAT. 12 by the template 'for every input the law returns true; each argument reads behind the call as it read before'; 0 by the template 'total and deterministic' (their statements: YtcpddgkloeklaaaGreatDoorTotals.lean).
  GIVEN WITH THE SEED: the statements are not yours to turn. If you find one false, say at which input.
  Laid BY PROGRAM, IN A SANDBOX (cutbox-rows.mjs): the forced cells as the released guide's own fill.sh prints them over the translation 8e0082e5873518db… (all of the seat's roots in one cut). By AI agents, Wed Nov 11 2026. No macro, syntax, notation, axiom, sorry.
-/
import Derived.Test.YtcpddgkloeklaaaGreatDoorChecked
import GoSem.PinnedTables
import GoSem.Claim
import GoSem.ClaimJoined
import GoSem.ClaimMapViews
import Derived.JoinedTies
import Derived.KernelRfl
namespace Go.Proofs.YtcpddgkloeklaaaGreatDoor
/- THE CELL 'sum', in the pinned program and in every row, IS THE sha256 OF THE DUMP (.gsa) THAT YtcpddgkloeklaaaGreatDoorProg.lean LOADS. Nothing in Lean hashes anything: it is a label: what it is worth is what the hold of that sum in a sandbox is worth. -/
noncomputable def Tryz.pinned : Pinned := { name := "ytcpddgkloeklaaagreatdoor", sum := "8e0082e5873518db9e4af7a8a4ad38280b98b481631e7a398b88956fed3a68c7", checked := Tryz.checked }
namespace Rows
def none {H : Type} : Left H := { results := [], args := [] }

/- WHAT THE LISTED PACKAGE-LEVEL VARIABLES READ AS WHEN THE CALL BEGINS. Each datum BY PROGRAM (the guide's laid-datum.mjs) off the statement by which the dump's own 'gosem.cut.vars' lays the variable. In a bare row this is a premise. The card (YtcpddgkloeklaaaGreatDoorCards.lean) ties it to the program's text. -/
def laid_unicode_utf8_acceptRanges {H : Type} : DataW H := .agg [.agg [.lit (.int .u8 128), .lit (.int .u8 191)], .agg [.lit (.int .u8 160), .lit (.int .u8 191)], .agg [.lit (.int .u8 128), .lit (.int .u8 159)], .agg [.lit (.int .u8 144), .lit (.int .u8 191)], .agg [.lit (.int .u8 128), .lit (.int .u8 143)], .agg [.lit (.int .u8 0), .lit (.int .u8 0)], .agg [.lit (.int .u8 0), .lit (.int .u8 0)], .agg [.lit (.int .u8 0), .lit (.int .u8 0)], .agg [.lit (.int .u8 0), .lit (.int .u8 0)], .agg [.lit (.int .u8 0), .lit (.int .u8 0)], .agg [.lit (.int .u8 0), .lit (.int .u8 0)], .agg [.lit (.int .u8 0), .lit (.int .u8 0)], .agg [.lit (.int .u8 0), .lit (.int .u8 0)], .agg [.lit (.int .u8 0), .lit (.int .u8 0)], .agg [.lit (.int .u8 0), .lit (.int .u8 0)], .agg [.lit (.int .u8 0), .lit (.int .u8 0)]]
/-- One of Go's own tables, pinned by name: the form's constant. -/
def laid_unicode_utf8_first : DataW Unit := Go.Pinned.utf8First

/-- 'laws.FnExactIsMinimalRepair': WHATEVER THE INPUT: true; the input reads as it did. -/
def fnExactIsMinimalRepairSpec : ChangeSpec := { name := "fnExactIsMinimalRepair", fn := fun _ => fun
  | [d1, d2] => { results := [.lit (.bool true)], args := [d1, d2] }
  | _ => none }
def fnExactIsMinimalRepairRow : OpenClaim := { program := "ytcpddgkloeklaaagreatdoor", sum := "8e0082e5873518db9e4af7a8a4ad38280b98b481631e7a398b88956fed3a68c7", func := "loop.example/g01030/laws.FnExactIsMinimalRepair", spec := "fnExactIsMinimalRepair", inPlace := ["internal/bytealg.IndexByteString", "internal/bytealg.IndexString", "internal/bytealg.CountString"], unfollowed := true, recurses := true, named := ["unicode/utf8.first", "unicode/utf8.acceptRanges", "internal/bytealg.MaxLen"], apart := false, laid := [("unicode/utf8.acceptRanges", laid_unicode_utf8_acceptRanges), ("unicode/utf8.first", laid_unicode_utf8_first)] }
def FnExactIsMinimalRepairSaid : Prop := fnExactIsMinimalRepairRow.holds Tryz.pinned (OpenSpec.ofChange fnExactIsMinimalRepairSpec)

/-- ITS FALSE NEIGHBOUR: 'it returns false'. Refute it at one input. -/
def fnExactIsMinimalRepairWrong : ChangeSpec := { name := "fnExactIsMinimalRepair", fn := fun _ => fun
  | [d1, d2] => { results := [.lit (.bool false)], args := [d1, d2] }
  | _ => none }
def FnExactIsMinimalRepairWrongFalsely : Prop := fnExactIsMinimalRepairRow.holds Tryz.pinned (OpenSpec.ofChange fnExactIsMinimalRepairWrong)

/-- 'laws.FnExactCoreWithin': WHATEVER THE INPUT: true; the input reads as it did. -/
def fnExactCoreWithinSpec : ChangeSpec := { name := "fnExactCoreWithin", fn := fun _ => fun
  | [d1, d2] => { results := [.lit (.bool true)], args := [d1, d2] }
  | _ => none }
def fnExactCoreWithinRow : OpenClaim := { program := "ytcpddgkloeklaaagreatdoor", sum := "8e0082e5873518db9e4af7a8a4ad38280b98b481631e7a398b88956fed3a68c7", func := "loop.example/g01030/laws.FnExactCoreWithin", spec := "fnExactCoreWithin", inPlace := ["internal/bytealg.IndexByteString", "internal/bytealg.IndexString", "internal/bytealg.CountString"], unfollowed := true, recurses := true, named := ["unicode/utf8.first", "unicode/utf8.acceptRanges", "internal/bytealg.MaxLen"], apart := false, laid := [("unicode/utf8.acceptRanges", laid_unicode_utf8_acceptRanges), ("unicode/utf8.first", laid_unicode_utf8_first)] }
def FnExactCoreWithinSaid : Prop := fnExactCoreWithinRow.holds Tryz.pinned (OpenSpec.ofChange fnExactCoreWithinSpec)

/-- ITS FALSE NEIGHBOUR: 'it returns false'. Refute it at one input. -/
def fnExactCoreWithinWrong : ChangeSpec := { name := "fnExactCoreWithin", fn := fun _ => fun
  | [d1, d2] => { results := [.lit (.bool false)], args := [d1, d2] }
  | _ => none }
def FnExactCoreWithinWrongFalsely : Prop := fnExactCoreWithinRow.holds Tryz.pinned (OpenSpec.ofChange fnExactCoreWithinWrong)

/-- 'laws.FnExactShrinkRepair': WHATEVER THE INPUT: true; the input reads as it did. -/
def fnExactShrinkRepairSpec : ChangeSpec := { name := "fnExactShrinkRepair", fn := fun _ => fun
  | [d1, d2] => { results := [.lit (.bool true)], args := [d1, d2] }
  | _ => none }
def fnExactShrinkRepairRow : OpenClaim := { program := "ytcpddgkloeklaaagreatdoor", sum := "8e0082e5873518db9e4af7a8a4ad38280b98b481631e7a398b88956fed3a68c7", func := "loop.example/g01030/laws.FnExactShrinkRepair", spec := "fnExactShrinkRepair", inPlace := ["internal/bytealg.IndexByteString", "internal/bytealg.IndexString", "internal/bytealg.CountString"], unfollowed := true, recurses := true, named := ["unicode/utf8.first", "unicode/utf8.acceptRanges", "internal/bytealg.MaxLen"], apart := false, laid := [("unicode/utf8.acceptRanges", laid_unicode_utf8_acceptRanges), ("unicode/utf8.first", laid_unicode_utf8_first)] }
def FnExactShrinkRepairSaid : Prop := fnExactShrinkRepairRow.holds Tryz.pinned (OpenSpec.ofChange fnExactShrinkRepairSpec)

/-- ITS FALSE NEIGHBOUR: 'it returns false'. Refute it at one input. -/
def fnExactShrinkRepairWrong : ChangeSpec := { name := "fnExactShrinkRepair", fn := fun _ => fun
  | [d1, d2] => { results := [.lit (.bool false)], args := [d1, d2] }
  | _ => none }
def FnExactShrinkRepairWrongFalsely : Prop := fnExactShrinkRepairRow.holds Tryz.pinned (OpenSpec.ofChange fnExactShrinkRepairWrong)

/-- 'laws.FnExactSourcesOf': WHATEVER THE INPUT: true; the input reads as it did. -/
def fnExactSourcesOfSpec : ChangeSpec := { name := "fnExactSourcesOf", fn := fun _ => fun
  | [d1, d2] => { results := [.lit (.bool true)], args := [d1, d2] }
  | _ => none }
def fnExactSourcesOfRow : OpenClaim := { program := "ytcpddgkloeklaaagreatdoor", sum := "8e0082e5873518db9e4af7a8a4ad38280b98b481631e7a398b88956fed3a68c7", func := "loop.example/g01030/laws.FnExactSourcesOf", spec := "fnExactSourcesOf", inPlace := ["internal/bytealg.IndexByteString", "internal/bytealg.IndexString", "internal/bytealg.CountString"], unfollowed := true, recurses := true, named := ["unicode/utf8.first", "unicode/utf8.acceptRanges", "internal/bytealg.MaxLen"], apart := false, laid := [("unicode/utf8.acceptRanges", laid_unicode_utf8_acceptRanges), ("unicode/utf8.first", laid_unicode_utf8_first)] }
def FnExactSourcesOfSaid : Prop := fnExactSourcesOfRow.holds Tryz.pinned (OpenSpec.ofChange fnExactSourcesOfSpec)

/-- ITS FALSE NEIGHBOUR: 'it returns false'. Refute it at one input. -/
def fnExactSourcesOfWrong : ChangeSpec := { name := "fnExactSourcesOf", fn := fun _ => fun
  | [d1, d2] => { results := [.lit (.bool false)], args := [d1, d2] }
  | _ => none }
def FnExactSourcesOfWrongFalsely : Prop := fnExactSourcesOfRow.holds Tryz.pinned (OpenSpec.ofChange fnExactSourcesOfWrong)

/-- 'laws.FnExactLeastRemoved': WHATEVER THE INPUT: true; the input reads as it did. -/
def fnExactLeastRemovedSpec : ChangeSpec := { name := "fnExactLeastRemoved", fn := fun _ => fun
  | [d] => { results := [.lit (.bool true)], args := [d] }
  | _ => none }
def fnExactLeastRemovedRow : OpenClaim := { program := "ytcpddgkloeklaaagreatdoor", sum := "8e0082e5873518db9e4af7a8a4ad38280b98b481631e7a398b88956fed3a68c7", func := "loop.example/g01030/laws.FnExactLeastRemoved", spec := "fnExactLeastRemoved", inPlace := ["internal/bytealg.IndexByteString", "internal/bytealg.IndexString", "internal/bytealg.CountString"], unfollowed := true, recurses := true, named := ["unicode/utf8.first", "unicode/utf8.acceptRanges", "internal/bytealg.MaxLen"], apart := false, laid := [("unicode/utf8.acceptRanges", laid_unicode_utf8_acceptRanges), ("unicode/utf8.first", laid_unicode_utf8_first)] }
def FnExactLeastRemovedSaid : Prop := fnExactLeastRemovedRow.holds Tryz.pinned (OpenSpec.ofChange fnExactLeastRemovedSpec)

/-- ITS FALSE NEIGHBOUR: 'it returns false'. Refute it at one input. -/
def fnExactLeastRemovedWrong : ChangeSpec := { name := "fnExactLeastRemoved", fn := fun _ => fun
  | [d] => { results := [.lit (.bool false)], args := [d] }
  | _ => none }
def FnExactLeastRemovedWrongFalsely : Prop := fnExactLeastRemovedRow.holds Tryz.pinned (OpenSpec.ofChange fnExactLeastRemovedWrong)

/-- 'laws.FnExactInCores': WHATEVER THE INPUT: true; the input reads as it did. -/
def fnExactInCoresSpec : ChangeSpec := { name := "fnExactInCores", fn := fun _ => fun
  | [d] => { results := [.lit (.bool true)], args := [d] }
  | _ => none }
def fnExactInCoresRow : OpenClaim := { program := "ytcpddgkloeklaaagreatdoor", sum := "8e0082e5873518db9e4af7a8a4ad38280b98b481631e7a398b88956fed3a68c7", func := "loop.example/g01030/laws.FnExactInCores", spec := "fnExactInCores", inPlace := ["internal/bytealg.IndexByteString", "internal/bytealg.IndexString", "internal/bytealg.CountString"], unfollowed := true, recurses := true, named := ["unicode/utf8.first", "unicode/utf8.acceptRanges", "internal/bytealg.MaxLen"], apart := false, laid := [("unicode/utf8.acceptRanges", laid_unicode_utf8_acceptRanges), ("unicode/utf8.first", laid_unicode_utf8_first)] }
def FnExactInCoresSaid : Prop := fnExactInCoresRow.holds Tryz.pinned (OpenSpec.ofChange fnExactInCoresSpec)

/-- ITS FALSE NEIGHBOUR: 'it returns false'. Refute it at one input. -/
def fnExactInCoresWrong : ChangeSpec := { name := "fnExactInCores", fn := fun _ => fun
  | [d] => { results := [.lit (.bool false)], args := [d] }
  | _ => none }
def FnExactInCoresWrongFalsely : Prop := fnExactInCoresRow.holds Tryz.pinned (OpenSpec.ofChange fnExactInCoresWrong)

/-- 'laws.FnExactCoresOf': WHATEVER THE INPUT: true; the input reads as it did. -/
def fnExactCoresOfSpec : ChangeSpec := { name := "fnExactCoresOf", fn := fun _ => fun
  | [d] => { results := [.lit (.bool true)], args := [d] }
  | _ => none }
def fnExactCoresOfRow : OpenClaim := { program := "ytcpddgkloeklaaagreatdoor", sum := "8e0082e5873518db9e4af7a8a4ad38280b98b481631e7a398b88956fed3a68c7", func := "loop.example/g01030/laws.FnExactCoresOf", spec := "fnExactCoresOf", inPlace := ["internal/bytealg.IndexByteString", "internal/bytealg.IndexString", "internal/bytealg.CountString"], unfollowed := true, recurses := true, named := ["unicode/utf8.first", "unicode/utf8.acceptRanges", "internal/bytealg.MaxLen"], apart := false, laid := [("unicode/utf8.acceptRanges", laid_unicode_utf8_acceptRanges), ("unicode/utf8.first", laid_unicode_utf8_first)] }
def FnExactCoresOfSaid : Prop := fnExactCoresOfRow.holds Tryz.pinned (OpenSpec.ofChange fnExactCoresOfSpec)

/-- ITS FALSE NEIGHBOUR: 'it returns false'. Refute it at one input. -/
def fnExactCoresOfWrong : ChangeSpec := { name := "fnExactCoresOf", fn := fun _ => fun
  | [d] => { results := [.lit (.bool false)], args := [d] }
  | _ => none }
def FnExactCoresOfWrongFalsely : Prop := fnExactCoresOfRow.holds Tryz.pinned (OpenSpec.ofChange fnExactCoresOfWrong)

/-- 'laws.FnExactSmallestCore': WHATEVER THE INPUT: true; the input reads as it did. -/
def fnExactSmallestCoreSpec : ChangeSpec := { name := "fnExactSmallestCore", fn := fun _ => fun
  | [d] => { results := [.lit (.bool true)], args := [d] }
  | _ => none }
def fnExactSmallestCoreRow : OpenClaim := { program := "ytcpddgkloeklaaagreatdoor", sum := "8e0082e5873518db9e4af7a8a4ad38280b98b481631e7a398b88956fed3a68c7", func := "loop.example/g01030/laws.FnExactSmallestCore", spec := "fnExactSmallestCore", inPlace := ["internal/bytealg.IndexByteString", "internal/bytealg.IndexString", "internal/bytealg.CountString"], unfollowed := true, recurses := true, named := ["unicode/utf8.first", "unicode/utf8.acceptRanges", "internal/bytealg.MaxLen"], apart := false, laid := [("unicode/utf8.acceptRanges", laid_unicode_utf8_acceptRanges), ("unicode/utf8.first", laid_unicode_utf8_first)] }
def FnExactSmallestCoreSaid : Prop := fnExactSmallestCoreRow.holds Tryz.pinned (OpenSpec.ofChange fnExactSmallestCoreSpec)

/-- ITS FALSE NEIGHBOUR: 'it returns false'. Refute it at one input. -/
def fnExactSmallestCoreWrong : ChangeSpec := { name := "fnExactSmallestCore", fn := fun _ => fun
  | [d] => { results := [.lit (.bool false)], args := [d] }
  | _ => none }
def FnExactSmallestCoreWrongFalsely : Prop := fnExactSmallestCoreRow.holds Tryz.pinned (OpenSpec.ofChange fnExactSmallestCoreWrong)

/-- 'laws.FnExactAlwaysKept': WHATEVER THE INPUT: true; the input reads as it did. -/
def fnExactAlwaysKeptSpec : ChangeSpec := { name := "fnExactAlwaysKept", fn := fun _ => fun
  | [d] => { results := [.lit (.bool true)], args := [d] }
  | _ => none }
def fnExactAlwaysKeptRow : OpenClaim := { program := "ytcpddgkloeklaaagreatdoor", sum := "8e0082e5873518db9e4af7a8a4ad38280b98b481631e7a398b88956fed3a68c7", func := "loop.example/g01030/laws.FnExactAlwaysKept", spec := "fnExactAlwaysKept", inPlace := ["internal/bytealg.IndexByteString", "internal/bytealg.IndexString", "internal/bytealg.CountString"], unfollowed := true, recurses := true, named := ["unicode/utf8.first", "unicode/utf8.acceptRanges", "internal/bytealg.MaxLen"], apart := false, laid := [("unicode/utf8.acceptRanges", laid_unicode_utf8_acceptRanges), ("unicode/utf8.first", laid_unicode_utf8_first)] }
def FnExactAlwaysKeptSaid : Prop := fnExactAlwaysKeptRow.holds Tryz.pinned (OpenSpec.ofChange fnExactAlwaysKeptSpec)

/-- ITS FALSE NEIGHBOUR: 'it returns false'. Refute it at one input. -/
def fnExactAlwaysKeptWrong : ChangeSpec := { name := "fnExactAlwaysKept", fn := fun _ => fun
  | [d] => { results := [.lit (.bool false)], args := [d] }
  | _ => none }
def FnExactAlwaysKeptWrongFalsely : Prop := fnExactAlwaysKeptRow.holds Tryz.pinned (OpenSpec.ofChange fnExactAlwaysKeptWrong)

/-- 'laws.FnExactMinimalRepairs': WHATEVER THE INPUT: true; the input reads as it did. -/
def fnExactMinimalRepairsSpec : ChangeSpec := { name := "fnExactMinimalRepairs", fn := fun _ => fun
  | [d] => { results := [.lit (.bool true)], args := [d] }
  | _ => none }
def fnExactMinimalRepairsRow : OpenClaim := { program := "ytcpddgkloeklaaagreatdoor", sum := "8e0082e5873518db9e4af7a8a4ad38280b98b481631e7a398b88956fed3a68c7", func := "loop.example/g01030/laws.FnExactMinimalRepairs", spec := "fnExactMinimalRepairs", inPlace := ["internal/bytealg.IndexByteString", "internal/bytealg.IndexString", "internal/bytealg.CountString"], unfollowed := true, recurses := true, named := ["unicode/utf8.first", "unicode/utf8.acceptRanges", "internal/bytealg.MaxLen"], apart := false, laid := [("unicode/utf8.acceptRanges", laid_unicode_utf8_acceptRanges), ("unicode/utf8.first", laid_unicode_utf8_first)] }
def FnExactMinimalRepairsSaid : Prop := fnExactMinimalRepairsRow.holds Tryz.pinned (OpenSpec.ofChange fnExactMinimalRepairsSpec)

/-- ITS FALSE NEIGHBOUR: 'it returns false'. Refute it at one input. -/
def fnExactMinimalRepairsWrong : ChangeSpec := { name := "fnExactMinimalRepairs", fn := fun _ => fun
  | [d] => { results := [.lit (.bool false)], args := [d] }
  | _ => none }
def FnExactMinimalRepairsWrongFalsely : Prop := fnExactMinimalRepairsRow.holds Tryz.pinned (OpenSpec.ofChange fnExactMinimalRepairsWrong)

/-- 'laws.FnExactSmallestSources': WHATEVER THE INPUT: true; the input reads as it did. -/
def fnExactSmallestSourcesSpec : ChangeSpec := { name := "fnExactSmallestSources", fn := fun _ => fun
  | [d] => { results := [.lit (.bool true)], args := [d] }
  | _ => none }
def fnExactSmallestSourcesRow : OpenClaim := { program := "ytcpddgkloeklaaagreatdoor", sum := "8e0082e5873518db9e4af7a8a4ad38280b98b481631e7a398b88956fed3a68c7", func := "loop.example/g01030/laws.FnExactSmallestSources", spec := "fnExactSmallestSources", inPlace := ["internal/bytealg.IndexByteString", "internal/bytealg.IndexString", "internal/bytealg.CountString"], unfollowed := true, recurses := true, named := ["unicode/utf8.first", "unicode/utf8.acceptRanges", "internal/bytealg.MaxLen"], apart := false, laid := [("unicode/utf8.acceptRanges", laid_unicode_utf8_acceptRanges), ("unicode/utf8.first", laid_unicode_utf8_first)] }
def FnExactSmallestSourcesSaid : Prop := fnExactSmallestSourcesRow.holds Tryz.pinned (OpenSpec.ofChange fnExactSmallestSourcesSpec)

/-- ITS FALSE NEIGHBOUR: 'it returns false'. Refute it at one input. -/
def fnExactSmallestSourcesWrong : ChangeSpec := { name := "fnExactSmallestSources", fn := fun _ => fun
  | [d] => { results := [.lit (.bool false)], args := [d] }
  | _ => none }
def FnExactSmallestSourcesWrongFalsely : Prop := fnExactSmallestSourcesRow.holds Tryz.pinned (OpenSpec.ofChange fnExactSmallestSourcesWrong)

/-- 'laws.FnExactBestRepair': WHATEVER THE INPUT: true; the input reads as it did. -/
def fnExactBestRepairSpec : ChangeSpec := { name := "fnExactBestRepair", fn := fun _ => fun
  | [d] => { results := [.lit (.bool true)], args := [d] }
  | _ => none }
def fnExactBestRepairRow : OpenClaim := { program := "ytcpddgkloeklaaagreatdoor", sum := "8e0082e5873518db9e4af7a8a4ad38280b98b481631e7a398b88956fed3a68c7", func := "loop.example/g01030/laws.FnExactBestRepair", spec := "fnExactBestRepair", inPlace := ["internal/bytealg.IndexByteString", "internal/bytealg.IndexString", "internal/bytealg.CountString"], unfollowed := true, recurses := true, named := ["unicode/utf8.first", "unicode/utf8.acceptRanges", "internal/bytealg.MaxLen"], apart := false, laid := [("unicode/utf8.acceptRanges", laid_unicode_utf8_acceptRanges), ("unicode/utf8.first", laid_unicode_utf8_first)] }
def FnExactBestRepairSaid : Prop := fnExactBestRepairRow.holds Tryz.pinned (OpenSpec.ofChange fnExactBestRepairSpec)

/-- ITS FALSE NEIGHBOUR: 'it returns false'. Refute it at one input. -/
def fnExactBestRepairWrong : ChangeSpec := { name := "fnExactBestRepair", fn := fun _ => fun
  | [d] => { results := [.lit (.bool false)], args := [d] }
  | _ => none }
def FnExactBestRepairWrongFalsely : Prop := fnExactBestRepairRow.holds Tryz.pinned (OpenSpec.ofChange fnExactBestRepairWrong)

/- THE SECOND FORM. 'bulk': how many values and letters a reading holds, each counted each time it is reached (what is shared counts as often as it is met; a slice's spare places count too). A statement '..UptoSaid' is the law's where the arguments, and the package variables that the reading takes, are together of bulk at most 1048576: NARROWER than '..Said'. Prove '..Said' where nothing that the law and all that it calls make is longer than what came in: it says more and counts as full. Else prove '..UptoSaid'. A law counts once. -/
mutual
def uptoBulk {H : Type} : DataW H → Nat
  | .lit (.string bytes) => bytes.length + 1
  | .lit _ => 1
  | .nil => 1
  | .ptr d => uptoBulk d + 1
  | .slice elems spare => uptoBulkAll elems + uptoBulkAll spare + 1
  | .agg parts => uptoBulkAll parts + 1
  | .iface _ d => uptoBulk d + 1
  | .map entries => uptoBulkEntries entries + 1
  | .held _ => 1
def uptoBulkAll {H : Type} : List (DataW H) → Nat
  | [] => 0
  | d :: r => uptoBulk d + uptoBulkAll r
def uptoBulkEntries {H : Type} : List (Lit × DataW H) → Nat
  | [] => 0
  | x :: r => uptoBulkEntry x + uptoBulkEntries r
def uptoBulkEntry {H : Type} : Lit × DataW H → Nat
  | (.string bytes, d) => bytes.length + uptoBulk d + 1
  | (_, d) => uptoBulk d + 1
 end
def uptoSmall : (H : Type) → List (DataW H) → Bool := fun _ ds => decide (uptoBulkAll ds ≤ 1048576)
def OpenSpec.upto (s : _root_.Go.ChangeSpec) : _root_.Go.OpenSpec := { _root_.Go.OpenSpec.ofChange s with cond := some uptoSmall }

/-- 'laws.FnExactIsMinimalRepair', WHERE WHAT IT READS IS OF BULK AT MOST 1048576: true; the input reads as it did. -/
def fnExactIsMinimalRepairUptoRow : OpenClaim := { program := "ytcpddgkloeklaaagreatdoor", sum := "8e0082e5873518db9e4af7a8a4ad38280b98b481631e7a398b88956fed3a68c7", func := "loop.example/g01030/laws.FnExactIsMinimalRepair", spec := "fnExactIsMinimalRepair", inPlace := ["internal/bytealg.IndexByteString", "internal/bytealg.IndexString", "internal/bytealg.CountString"], unfollowed := true, recurses := true, named := ["unicode/utf8.first", "unicode/utf8.acceptRanges", "internal/bytealg.MaxLen"], apart := false, laid := [("unicode/utf8.acceptRanges", laid_unicode_utf8_acceptRanges), ("unicode/utf8.first", laid_unicode_utf8_first)], narrowed := true }
def FnExactIsMinimalRepairUptoSaid : Prop := fnExactIsMinimalRepairUptoRow.holds Tryz.pinned (OpenSpec.upto fnExactIsMinimalRepairSpec)

/-- 'laws.FnExactCoreWithin', WHERE WHAT IT READS IS OF BULK AT MOST 1048576: true; the input reads as it did. -/
def fnExactCoreWithinUptoRow : OpenClaim := { program := "ytcpddgkloeklaaagreatdoor", sum := "8e0082e5873518db9e4af7a8a4ad38280b98b481631e7a398b88956fed3a68c7", func := "loop.example/g01030/laws.FnExactCoreWithin", spec := "fnExactCoreWithin", inPlace := ["internal/bytealg.IndexByteString", "internal/bytealg.IndexString", "internal/bytealg.CountString"], unfollowed := true, recurses := true, named := ["unicode/utf8.first", "unicode/utf8.acceptRanges", "internal/bytealg.MaxLen"], apart := false, laid := [("unicode/utf8.acceptRanges", laid_unicode_utf8_acceptRanges), ("unicode/utf8.first", laid_unicode_utf8_first)], narrowed := true }
def FnExactCoreWithinUptoSaid : Prop := fnExactCoreWithinUptoRow.holds Tryz.pinned (OpenSpec.upto fnExactCoreWithinSpec)

/-- 'laws.FnExactShrinkRepair', WHERE WHAT IT READS IS OF BULK AT MOST 1048576: true; the input reads as it did. -/
def fnExactShrinkRepairUptoRow : OpenClaim := { program := "ytcpddgkloeklaaagreatdoor", sum := "8e0082e5873518db9e4af7a8a4ad38280b98b481631e7a398b88956fed3a68c7", func := "loop.example/g01030/laws.FnExactShrinkRepair", spec := "fnExactShrinkRepair", inPlace := ["internal/bytealg.IndexByteString", "internal/bytealg.IndexString", "internal/bytealg.CountString"], unfollowed := true, recurses := true, named := ["unicode/utf8.first", "unicode/utf8.acceptRanges", "internal/bytealg.MaxLen"], apart := false, laid := [("unicode/utf8.acceptRanges", laid_unicode_utf8_acceptRanges), ("unicode/utf8.first", laid_unicode_utf8_first)], narrowed := true }
def FnExactShrinkRepairUptoSaid : Prop := fnExactShrinkRepairUptoRow.holds Tryz.pinned (OpenSpec.upto fnExactShrinkRepairSpec)

/-- 'laws.FnExactSourcesOf', WHERE WHAT IT READS IS OF BULK AT MOST 1048576: true; the input reads as it did. -/
def fnExactSourcesOfUptoRow : OpenClaim := { program := "ytcpddgkloeklaaagreatdoor", sum := "8e0082e5873518db9e4af7a8a4ad38280b98b481631e7a398b88956fed3a68c7", func := "loop.example/g01030/laws.FnExactSourcesOf", spec := "fnExactSourcesOf", inPlace := ["internal/bytealg.IndexByteString", "internal/bytealg.IndexString", "internal/bytealg.CountString"], unfollowed := true, recurses := true, named := ["unicode/utf8.first", "unicode/utf8.acceptRanges", "internal/bytealg.MaxLen"], apart := false, laid := [("unicode/utf8.acceptRanges", laid_unicode_utf8_acceptRanges), ("unicode/utf8.first", laid_unicode_utf8_first)], narrowed := true }
def FnExactSourcesOfUptoSaid : Prop := fnExactSourcesOfUptoRow.holds Tryz.pinned (OpenSpec.upto fnExactSourcesOfSpec)

/-- 'laws.FnExactLeastRemoved', WHERE WHAT IT READS IS OF BULK AT MOST 1048576: true; the input reads as it did. -/
def fnExactLeastRemovedUptoRow : OpenClaim := { program := "ytcpddgkloeklaaagreatdoor", sum := "8e0082e5873518db9e4af7a8a4ad38280b98b481631e7a398b88956fed3a68c7", func := "loop.example/g01030/laws.FnExactLeastRemoved", spec := "fnExactLeastRemoved", inPlace := ["internal/bytealg.IndexByteString", "internal/bytealg.IndexString", "internal/bytealg.CountString"], unfollowed := true, recurses := true, named := ["unicode/utf8.first", "unicode/utf8.acceptRanges", "internal/bytealg.MaxLen"], apart := false, laid := [("unicode/utf8.acceptRanges", laid_unicode_utf8_acceptRanges), ("unicode/utf8.first", laid_unicode_utf8_first)], narrowed := true }
def FnExactLeastRemovedUptoSaid : Prop := fnExactLeastRemovedUptoRow.holds Tryz.pinned (OpenSpec.upto fnExactLeastRemovedSpec)

/-- 'laws.FnExactInCores', WHERE WHAT IT READS IS OF BULK AT MOST 1048576: true; the input reads as it did. -/
def fnExactInCoresUptoRow : OpenClaim := { program := "ytcpddgkloeklaaagreatdoor", sum := "8e0082e5873518db9e4af7a8a4ad38280b98b481631e7a398b88956fed3a68c7", func := "loop.example/g01030/laws.FnExactInCores", spec := "fnExactInCores", inPlace := ["internal/bytealg.IndexByteString", "internal/bytealg.IndexString", "internal/bytealg.CountString"], unfollowed := true, recurses := true, named := ["unicode/utf8.first", "unicode/utf8.acceptRanges", "internal/bytealg.MaxLen"], apart := false, laid := [("unicode/utf8.acceptRanges", laid_unicode_utf8_acceptRanges), ("unicode/utf8.first", laid_unicode_utf8_first)], narrowed := true }
def FnExactInCoresUptoSaid : Prop := fnExactInCoresUptoRow.holds Tryz.pinned (OpenSpec.upto fnExactInCoresSpec)

/-- 'laws.FnExactCoresOf', WHERE WHAT IT READS IS OF BULK AT MOST 1048576: true; the input reads as it did. -/
def fnExactCoresOfUptoRow : OpenClaim := { program := "ytcpddgkloeklaaagreatdoor", sum := "8e0082e5873518db9e4af7a8a4ad38280b98b481631e7a398b88956fed3a68c7", func := "loop.example/g01030/laws.FnExactCoresOf", spec := "fnExactCoresOf", inPlace := ["internal/bytealg.IndexByteString", "internal/bytealg.IndexString", "internal/bytealg.CountString"], unfollowed := true, recurses := true, named := ["unicode/utf8.first", "unicode/utf8.acceptRanges", "internal/bytealg.MaxLen"], apart := false, laid := [("unicode/utf8.acceptRanges", laid_unicode_utf8_acceptRanges), ("unicode/utf8.first", laid_unicode_utf8_first)], narrowed := true }
def FnExactCoresOfUptoSaid : Prop := fnExactCoresOfUptoRow.holds Tryz.pinned (OpenSpec.upto fnExactCoresOfSpec)

/-- 'laws.FnExactSmallestCore', WHERE WHAT IT READS IS OF BULK AT MOST 1048576: true; the input reads as it did. -/
def fnExactSmallestCoreUptoRow : OpenClaim := { program := "ytcpddgkloeklaaagreatdoor", sum := "8e0082e5873518db9e4af7a8a4ad38280b98b481631e7a398b88956fed3a68c7", func := "loop.example/g01030/laws.FnExactSmallestCore", spec := "fnExactSmallestCore", inPlace := ["internal/bytealg.IndexByteString", "internal/bytealg.IndexString", "internal/bytealg.CountString"], unfollowed := true, recurses := true, named := ["unicode/utf8.first", "unicode/utf8.acceptRanges", "internal/bytealg.MaxLen"], apart := false, laid := [("unicode/utf8.acceptRanges", laid_unicode_utf8_acceptRanges), ("unicode/utf8.first", laid_unicode_utf8_first)], narrowed := true }
def FnExactSmallestCoreUptoSaid : Prop := fnExactSmallestCoreUptoRow.holds Tryz.pinned (OpenSpec.upto fnExactSmallestCoreSpec)

/-- 'laws.FnExactAlwaysKept', WHERE WHAT IT READS IS OF BULK AT MOST 1048576: true; the input reads as it did. -/
def fnExactAlwaysKeptUptoRow : OpenClaim := { program := "ytcpddgkloeklaaagreatdoor", sum := "8e0082e5873518db9e4af7a8a4ad38280b98b481631e7a398b88956fed3a68c7", func := "loop.example/g01030/laws.FnExactAlwaysKept", spec := "fnExactAlwaysKept", inPlace := ["internal/bytealg.IndexByteString", "internal/bytealg.IndexString", "internal/bytealg.CountString"], unfollowed := true, recurses := true, named := ["unicode/utf8.first", "unicode/utf8.acceptRanges", "internal/bytealg.MaxLen"], apart := false, laid := [("unicode/utf8.acceptRanges", laid_unicode_utf8_acceptRanges), ("unicode/utf8.first", laid_unicode_utf8_first)], narrowed := true }
def FnExactAlwaysKeptUptoSaid : Prop := fnExactAlwaysKeptUptoRow.holds Tryz.pinned (OpenSpec.upto fnExactAlwaysKeptSpec)

/-- 'laws.FnExactMinimalRepairs', WHERE WHAT IT READS IS OF BULK AT MOST 1048576: true; the input reads as it did. -/
def fnExactMinimalRepairsUptoRow : OpenClaim := { program := "ytcpddgkloeklaaagreatdoor", sum := "8e0082e5873518db9e4af7a8a4ad38280b98b481631e7a398b88956fed3a68c7", func := "loop.example/g01030/laws.FnExactMinimalRepairs", spec := "fnExactMinimalRepairs", inPlace := ["internal/bytealg.IndexByteString", "internal/bytealg.IndexString", "internal/bytealg.CountString"], unfollowed := true, recurses := true, named := ["unicode/utf8.first", "unicode/utf8.acceptRanges", "internal/bytealg.MaxLen"], apart := false, laid := [("unicode/utf8.acceptRanges", laid_unicode_utf8_acceptRanges), ("unicode/utf8.first", laid_unicode_utf8_first)], narrowed := true }
def FnExactMinimalRepairsUptoSaid : Prop := fnExactMinimalRepairsUptoRow.holds Tryz.pinned (OpenSpec.upto fnExactMinimalRepairsSpec)

/-- 'laws.FnExactSmallestSources', WHERE WHAT IT READS IS OF BULK AT MOST 1048576: true; the input reads as it did. -/
def fnExactSmallestSourcesUptoRow : OpenClaim := { program := "ytcpddgkloeklaaagreatdoor", sum := "8e0082e5873518db9e4af7a8a4ad38280b98b481631e7a398b88956fed3a68c7", func := "loop.example/g01030/laws.FnExactSmallestSources", spec := "fnExactSmallestSources", inPlace := ["internal/bytealg.IndexByteString", "internal/bytealg.IndexString", "internal/bytealg.CountString"], unfollowed := true, recurses := true, named := ["unicode/utf8.first", "unicode/utf8.acceptRanges", "internal/bytealg.MaxLen"], apart := false, laid := [("unicode/utf8.acceptRanges", laid_unicode_utf8_acceptRanges), ("unicode/utf8.first", laid_unicode_utf8_first)], narrowed := true }
def FnExactSmallestSourcesUptoSaid : Prop := fnExactSmallestSourcesUptoRow.holds Tryz.pinned (OpenSpec.upto fnExactSmallestSourcesSpec)

/-- 'laws.FnExactBestRepair', WHERE WHAT IT READS IS OF BULK AT MOST 1048576: true; the input reads as it did. -/
def fnExactBestRepairUptoRow : OpenClaim := { program := "ytcpddgkloeklaaagreatdoor", sum := "8e0082e5873518db9e4af7a8a4ad38280b98b481631e7a398b88956fed3a68c7", func := "loop.example/g01030/laws.FnExactBestRepair", spec := "fnExactBestRepair", inPlace := ["internal/bytealg.IndexByteString", "internal/bytealg.IndexString", "internal/bytealg.CountString"], unfollowed := true, recurses := true, named := ["unicode/utf8.first", "unicode/utf8.acceptRanges", "internal/bytealg.MaxLen"], apart := false, laid := [("unicode/utf8.acceptRanges", laid_unicode_utf8_acceptRanges), ("unicode/utf8.first", laid_unicode_utf8_first)], narrowed := true }
def FnExactBestRepairUptoSaid : Prop := fnExactBestRepairUptoRow.holds Tryz.pinned (OpenSpec.upto fnExactBestRepairSpec)

end Rows
end Go.Proofs.YtcpddgkloeklaaaGreatDoor
