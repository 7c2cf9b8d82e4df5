/-
  NARROWER THAN 'FOR EVERY INPUT', by the rows' own cells (each row's printed sentence says how): FnExactCountParsings: laid · FnExactFirstParsing: laid · FnExactIsRecovered: laid · FnExactDecodeText: laid · FnParsings: laid.
  DERIVED. THE GIVEN ROWS OF THIS SEAT. 5 by the template 'for every input the law returns true; each argument reads behind the call as it read before'; 0 by the template 'total and deterministic' (their statements: YtokbolgaokbdcaaDoorTotals.lean).
  GIVEN WITH THE SEED: the statements are not yours to turn. If you find one false, say at which input.
  Laid BY PROGRAM, IN A SANDBOX (cutbox-rows.mjs): the forced cells as the released guide's own fill.sh prints them over the translation f6d293b3cb6caada… (all of the seat's roots in one cut). By AI agents, Wed Nov 11 2026. No macro, syntax, notation, axiom, sorry.
-/
import Derived.Test.YtokbolgaokbdcaaDoorChecked
import GoSem.PinnedTables
import GoSem.Claim
import GoSem.ClaimJoined
import GoSem.ClaimMapViews
import Derived.JoinedTies
import Derived.KernelRfl
namespace Go.Proofs.YtokbolgaokbdcaaDoor
/- THE CELL 'sum', in the pinned program and in every row, IS THE sha256 OF THE DUMP (.gsa) THAT YtokbolgaokbdcaaDoorProg.lean LOADS. Nothing in Lean hashes anything: it is a label: what it is worth is what the hold of that sum in a sandbox is worth. -/
noncomputable def Tryd.pinned : Pinned := { name := "ytokbolgaokbdcaadoor", sum := "f6d293b3cb6caada27a748203ea4c332e0a5ac46df9ba2ecd82480a6021d88fe", checked := Tryd.checked }
namespace Rows
def none {H : Type} : Left H := { results := [], args := [] }

/- WHAT THE LISTED PACKAGE-LEVEL VARIABLES READ AS WHEN THE CALL BEGINS. Each datum BY PROGRAM (the guide's laid-datum.mjs) off the statement by which the dump's own 'gosem.cut.vars' lays the variable. In a bare row this is a premise. The card (YtokbolgaokbdcaaDoorCards.lean) ties it to the program's text. -/
def laid_unicode_utf8_acceptRanges {H : Type} : DataW H := .agg [.agg [.lit (.int .u8 128), .lit (.int .u8 191)], .agg [.lit (.int .u8 160), .lit (.int .u8 191)], .agg [.lit (.int .u8 128), .lit (.int .u8 159)], .agg [.lit (.int .u8 144), .lit (.int .u8 191)], .agg [.lit (.int .u8 128), .lit (.int .u8 143)], .agg [.lit (.int .u8 0), .lit (.int .u8 0)], .agg [.lit (.int .u8 0), .lit (.int .u8 0)], .agg [.lit (.int .u8 0), .lit (.int .u8 0)], .agg [.lit (.int .u8 0), .lit (.int .u8 0)], .agg [.lit (.int .u8 0), .lit (.int .u8 0)], .agg [.lit (.int .u8 0), .lit (.int .u8 0)], .agg [.lit (.int .u8 0), .lit (.int .u8 0)], .agg [.lit (.int .u8 0), .lit (.int .u8 0)], .agg [.lit (.int .u8 0), .lit (.int .u8 0)], .agg [.lit (.int .u8 0), .lit (.int .u8 0)], .agg [.lit (.int .u8 0), .lit (.int .u8 0)]]
/-- One of Go's own tables, pinned by name: the form's constant. -/
def laid_unicode_utf8_first : DataW Unit := Go.Pinned.utf8First

/-- 'laws.FnExactCountParsings': WHATEVER THE INPUT: true; the input reads as it did. -/
def fnExactCountParsingsSpec : ChangeSpec := { name := "fnExactCountParsings", fn := fun _ => fun
  | [d1, d2] => { results := [.lit (.bool true)], args := [d1, d2] }
  | _ => none }
def fnExactCountParsingsRow : OpenClaim := { program := "ytokbolgaokbdcaadoor", sum := "f6d293b3cb6caada27a748203ea4c332e0a5ac46df9ba2ecd82480a6021d88fe", func := "loop.example/g01030/laws.FnExactCountParsings", spec := "fnExactCountParsings", inPlace := ["internal/bytealg.IndexByteString", "internal/bytealg.IndexString"], unfollowed := true, recurses := true, named := ["unicode/utf8.first", "unicode/utf8.acceptRanges", "internal/bytealg.MaxLen"], apart := false, laid := [("unicode/utf8.acceptRanges", laid_unicode_utf8_acceptRanges), ("unicode/utf8.first", laid_unicode_utf8_first)] }
def FnExactCountParsingsSaid : Prop := fnExactCountParsingsRow.holds Tryd.pinned (OpenSpec.ofChange fnExactCountParsingsSpec)

/-- ITS FALSE NEIGHBOUR: 'it returns false'. Refute it at one input. -/
def fnExactCountParsingsWrong : ChangeSpec := { name := "fnExactCountParsings", fn := fun _ => fun
  | [d1, d2] => { results := [.lit (.bool false)], args := [d1, d2] }
  | _ => none }
def FnExactCountParsingsWrongFalsely : Prop := fnExactCountParsingsRow.holds Tryd.pinned (OpenSpec.ofChange fnExactCountParsingsWrong)

/-- 'laws.FnExactFirstParsing': WHATEVER THE INPUT: true; the input reads as it did. -/
def fnExactFirstParsingSpec : ChangeSpec := { name := "fnExactFirstParsing", fn := fun _ => fun
  | [d1, d2] => { results := [.lit (.bool true)], args := [d1, d2] }
  | _ => none }
def fnExactFirstParsingRow : OpenClaim := { program := "ytokbolgaokbdcaadoor", sum := "f6d293b3cb6caada27a748203ea4c332e0a5ac46df9ba2ecd82480a6021d88fe", func := "loop.example/g01030/laws.FnExactFirstParsing", spec := "fnExactFirstParsing", inPlace := ["internal/bytealg.IndexByteString", "internal/bytealg.IndexString"], unfollowed := true, recurses := true, named := ["unicode/utf8.first", "unicode/utf8.acceptRanges", "internal/bytealg.MaxLen"], apart := false, laid := [("unicode/utf8.acceptRanges", laid_unicode_utf8_acceptRanges), ("unicode/utf8.first", laid_unicode_utf8_first)] }
def FnExactFirstParsingSaid : Prop := fnExactFirstParsingRow.holds Tryd.pinned (OpenSpec.ofChange fnExactFirstParsingSpec)

/-- ITS FALSE NEIGHBOUR: 'it returns false'. Refute it at one input. -/
def fnExactFirstParsingWrong : ChangeSpec := { name := "fnExactFirstParsing", fn := fun _ => fun
  | [d1, d2] => { results := [.lit (.bool false)], args := [d1, d2] }
  | _ => none }
def FnExactFirstParsingWrongFalsely : Prop := fnExactFirstParsingRow.holds Tryd.pinned (OpenSpec.ofChange fnExactFirstParsingWrong)

/-- 'laws.FnExactIsRecovered': WHATEVER THE INPUT: true; the input reads as it did. -/
def fnExactIsRecoveredSpec : ChangeSpec := { name := "fnExactIsRecovered", fn := fun _ => fun
  | [d1, d2] => { results := [.lit (.bool true)], args := [d1, d2] }
  | _ => none }
def fnExactIsRecoveredRow : OpenClaim := { program := "ytokbolgaokbdcaadoor", sum := "f6d293b3cb6caada27a748203ea4c332e0a5ac46df9ba2ecd82480a6021d88fe", func := "loop.example/g01030/laws.FnExactIsRecovered", spec := "fnExactIsRecovered", inPlace := ["internal/bytealg.IndexByteString", "internal/bytealg.IndexString", "internal/bytealg.abigen_runtime_cmpstring"], unfollowed := true, recurses := true, named := ["unicode/utf8.first", "unicode/utf8.acceptRanges", "internal/bytealg.MaxLen"], apart := false, laid := [("unicode/utf8.acceptRanges", laid_unicode_utf8_acceptRanges), ("unicode/utf8.first", laid_unicode_utf8_first)] }
def FnExactIsRecoveredSaid : Prop := fnExactIsRecoveredRow.holds Tryd.pinned (OpenSpec.ofChange fnExactIsRecoveredSpec)

/-- ITS FALSE NEIGHBOUR: 'it returns false'. Refute it at one input. -/
def fnExactIsRecoveredWrong : ChangeSpec := { name := "fnExactIsRecovered", fn := fun _ => fun
  | [d1, d2] => { results := [.lit (.bool false)], args := [d1, d2] }
  | _ => none }
def FnExactIsRecoveredWrongFalsely : Prop := fnExactIsRecoveredRow.holds Tryd.pinned (OpenSpec.ofChange fnExactIsRecoveredWrong)

/-- 'laws.FnExactDecodeText': WHATEVER THE INPUT: true; the input reads as it did. -/
def fnExactDecodeTextSpec : ChangeSpec := { name := "fnExactDecodeText", fn := fun _ => fun
  | [d1, d2] => { results := [.lit (.bool true)], args := [d1, d2] }
  | _ => none }
def fnExactDecodeTextRow : OpenClaim := { program := "ytokbolgaokbdcaadoor", sum := "f6d293b3cb6caada27a748203ea4c332e0a5ac46df9ba2ecd82480a6021d88fe", func := "loop.example/g01030/laws.FnExactDecodeText", spec := "fnExactDecodeText", inPlace := ["internal/bytealg.IndexByteString", "internal/bytealg.IndexString", "internal/bytealg.abigen_runtime_cmpstring"], unfollowed := true, recurses := true, named := ["unicode/utf8.first", "unicode/utf8.acceptRanges", "internal/bytealg.MaxLen"], apart := false, laid := [("unicode/utf8.acceptRanges", laid_unicode_utf8_acceptRanges), ("unicode/utf8.first", laid_unicode_utf8_first)] }
def FnExactDecodeTextSaid : Prop := fnExactDecodeTextRow.holds Tryd.pinned (OpenSpec.ofChange fnExactDecodeTextSpec)

/-- ITS FALSE NEIGHBOUR: 'it returns false'. Refute it at one input. -/
def fnExactDecodeTextWrong : ChangeSpec := { name := "fnExactDecodeText", fn := fun _ => fun
  | [d1, d2] => { results := [.lit (.bool false)], args := [d1, d2] }
  | _ => none }
def FnExactDecodeTextWrongFalsely : Prop := fnExactDecodeTextRow.holds Tryd.pinned (OpenSpec.ofChange fnExactDecodeTextWrong)

/-- 'laws.FnParsings': WHATEVER THE INPUT: true; the input reads as it did. -/
def fnParsingsSpec : ChangeSpec := { name := "fnParsings", fn := fun _ => fun
  | [d] => { results := [.lit (.bool true)], args := [d] }
  | _ => none }
def fnParsingsRow : OpenClaim := { program := "ytokbolgaokbdcaadoor", sum := "f6d293b3cb6caada27a748203ea4c332e0a5ac46df9ba2ecd82480a6021d88fe", func := "loop.example/g01030/laws.FnParsings", spec := "fnParsings", inPlace := ["internal/bytealg.IndexByteString", "internal/bytealg.IndexString", "internal/bytealg.abigen_runtime_cmpstring"], unfollowed := true, recurses := true, named := ["unicode/utf8.first", "unicode/utf8.acceptRanges", "internal/bytealg.MaxLen"], apart := false, laid := [("unicode/utf8.acceptRanges", laid_unicode_utf8_acceptRanges), ("unicode/utf8.first", laid_unicode_utf8_first)] }
def FnParsingsSaid : Prop := fnParsingsRow.holds Tryd.pinned (OpenSpec.ofChange fnParsingsSpec)

/-- ITS FALSE NEIGHBOUR: 'it returns false'. Refute it at one input. -/
def fnParsingsWrong : ChangeSpec := { name := "fnParsings", fn := fun _ => fun
  | [d] => { results := [.lit (.bool false)], args := [d] }
  | _ => none }
def FnParsingsWrongFalsely : Prop := fnParsingsRow.holds Tryd.pinned (OpenSpec.ofChange fnParsingsWrong)

/- THE SECOND FORM. 'bulk': how many values and letters a reading holds, each counted each time it is reached (what is shared counts as often as it is met; a slice's spare places count too). A statement '..UptoSaid' is the law's where the arguments, and the package variables that the reading takes, are together of bulk at most 1048576: NARROWER than '..Said'. Prove '..Said' where nothing that the law and all that it calls make is longer than what came in: it says more and counts as full. Else prove '..UptoSaid'. A law counts once. -/
mutual
def uptoBulk {H : Type} : DataW H → Nat
  | .lit (.string bytes) => bytes.length + 1
  | .lit _ => 1
  | .nil => 1
  | .ptr d => uptoBulk d + 1
  | .slice elems spare => uptoBulkAll elems + uptoBulkAll spare + 1
  | .agg parts => uptoBulkAll parts + 1
  | .iface _ d => uptoBulk d + 1
  | .map entries => uptoBulkEntries entries + 1
  | .held _ => 1
def uptoBulkAll {H : Type} : List (DataW H) → Nat
  | [] => 0
  | d :: r => uptoBulk d + uptoBulkAll r
def uptoBulkEntries {H : Type} : List (Lit × DataW H) → Nat
  | [] => 0
  | x :: r => uptoBulkEntry x + uptoBulkEntries r
def uptoBulkEntry {H : Type} : Lit × DataW H → Nat
  | (.string bytes, d) => bytes.length + uptoBulk d + 1
  | (_, d) => uptoBulk d + 1
 end
def uptoSmall : (H : Type) → List (DataW H) → Bool := fun _ ds => decide (uptoBulkAll ds ≤ 1048576)
def OpenSpec.upto (s : _root_.Go.ChangeSpec) : _root_.Go.OpenSpec := { _root_.Go.OpenSpec.ofChange s with cond := some uptoSmall }

/-- 'laws.FnExactCountParsings', WHERE WHAT IT READS IS OF BULK AT MOST 1048576: true; the input reads as it did. -/
def fnExactCountParsingsUptoRow : OpenClaim := { program := "ytokbolgaokbdcaadoor", sum := "f6d293b3cb6caada27a748203ea4c332e0a5ac46df9ba2ecd82480a6021d88fe", func := "loop.example/g01030/laws.FnExactCountParsings", spec := "fnExactCountParsings", inPlace := ["internal/bytealg.IndexByteString", "internal/bytealg.IndexString"], unfollowed := true, recurses := true, named := ["unicode/utf8.first", "unicode/utf8.acceptRanges", "internal/bytealg.MaxLen"], apart := false, laid := [("unicode/utf8.acceptRanges", laid_unicode_utf8_acceptRanges), ("unicode/utf8.first", laid_unicode_utf8_first)], narrowed := true }
def FnExactCountParsingsUptoSaid : Prop := fnExactCountParsingsUptoRow.holds Tryd.pinned (OpenSpec.upto fnExactCountParsingsSpec)

/-- 'laws.FnExactFirstParsing', WHERE WHAT IT READS IS OF BULK AT MOST 1048576: true; the input reads as it did. -/
def fnExactFirstParsingUptoRow : OpenClaim := { program := "ytokbolgaokbdcaadoor", sum := "f6d293b3cb6caada27a748203ea4c332e0a5ac46df9ba2ecd82480a6021d88fe", func := "loop.example/g01030/laws.FnExactFirstParsing", spec := "fnExactFirstParsing", inPlace := ["internal/bytealg.IndexByteString", "internal/bytealg.IndexString"], unfollowed := true, recurses := true, named := ["unicode/utf8.first", "unicode/utf8.acceptRanges", "internal/bytealg.MaxLen"], apart := false, laid := [("unicode/utf8.acceptRanges", laid_unicode_utf8_acceptRanges), ("unicode/utf8.first", laid_unicode_utf8_first)], narrowed := true }
def FnExactFirstParsingUptoSaid : Prop := fnExactFirstParsingUptoRow.holds Tryd.pinned (OpenSpec.upto fnExactFirstParsingSpec)

/-- 'laws.FnExactIsRecovered', WHERE WHAT IT READS IS OF BULK AT MOST 1048576: true; the input reads as it did. -/
def fnExactIsRecoveredUptoRow : OpenClaim := { program := "ytokbolgaokbdcaadoor", sum := "f6d293b3cb6caada27a748203ea4c332e0a5ac46df9ba2ecd82480a6021d88fe", func := "loop.example/g01030/laws.FnExactIsRecovered", spec := "fnExactIsRecovered", inPlace := ["internal/bytealg.IndexByteString", "internal/bytealg.IndexString", "internal/bytealg.abigen_runtime_cmpstring"], unfollowed := true, recurses := true, named := ["unicode/utf8.first", "unicode/utf8.acceptRanges", "internal/bytealg.MaxLen"], apart := false, laid := [("unicode/utf8.acceptRanges", laid_unicode_utf8_acceptRanges), ("unicode/utf8.first", laid_unicode_utf8_first)], narrowed := true }
def FnExactIsRecoveredUptoSaid : Prop := fnExactIsRecoveredUptoRow.holds Tryd.pinned (OpenSpec.upto fnExactIsRecoveredSpec)

/-- 'laws.FnExactDecodeText', WHERE WHAT IT READS IS OF BULK AT MOST 1048576: true; the input reads as it did. -/
def fnExactDecodeTextUptoRow : OpenClaim := { program := "ytokbolgaokbdcaadoor", sum := "f6d293b3cb6caada27a748203ea4c332e0a5ac46df9ba2ecd82480a6021d88fe", func := "loop.example/g01030/laws.FnExactDecodeText", spec := "fnExactDecodeText", inPlace := ["internal/bytealg.IndexByteString", "internal/bytealg.IndexString", "internal/bytealg.abigen_runtime_cmpstring"], unfollowed := true, recurses := true, named := ["unicode/utf8.first", "unicode/utf8.acceptRanges", "internal/bytealg.MaxLen"], apart := false, laid := [("unicode/utf8.acceptRanges", laid_unicode_utf8_acceptRanges), ("unicode/utf8.first", laid_unicode_utf8_first)], narrowed := true }
def FnExactDecodeTextUptoSaid : Prop := fnExactDecodeTextUptoRow.holds Tryd.pinned (OpenSpec.upto fnExactDecodeTextSpec)

/-- 'laws.FnParsings', WHERE WHAT IT READS IS OF BULK AT MOST 1048576: true; the input reads as it did. -/
def fnParsingsUptoRow : OpenClaim := { program := "ytokbolgaokbdcaadoor", sum := "f6d293b3cb6caada27a748203ea4c332e0a5ac46df9ba2ecd82480a6021d88fe", func := "loop.example/g01030/laws.FnParsings", spec := "fnParsings", inPlace := ["internal/bytealg.IndexByteString", "internal/bytealg.IndexString", "internal/bytealg.abigen_runtime_cmpstring"], unfollowed := true, recurses := true, named := ["unicode/utf8.first", "unicode/utf8.acceptRanges", "internal/bytealg.MaxLen"], apart := false, laid := [("unicode/utf8.acceptRanges", laid_unicode_utf8_acceptRanges), ("unicode/utf8.first", laid_unicode_utf8_first)], narrowed := true }
def FnParsingsUptoSaid : Prop := fnParsingsUptoRow.holds Tryd.pinned (OpenSpec.upto fnParsingsSpec)

end Rows
end Go.Proofs.YtokbolgaokbdcaaDoor
