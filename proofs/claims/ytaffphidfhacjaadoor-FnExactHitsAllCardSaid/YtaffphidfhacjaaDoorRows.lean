/-
  NARROWER THAN 'FOR EVERY INPUT', by the rows' own cells (each row's printed sentence says how): FnExactAreChosenConsistent: laid · FnExactExistsBy: laid · FnExactIsRepair: laid · FnExactHitsAll: laid · FnExactIsCore: laid.
  DERIVED. THE GIVEN ROWS OF THIS SEAT. 5 by the template 'for every input the law returns true; each argument reads behind the call as it read before'; 0 by the template 'total and deterministic' (their statements: YtaffphidfhacjaaDoorTotals.lean).
  GIVEN WITH THE SEED: the statements are not yours to turn. If you find one false, say at which input.
  Laid BY PROGRAM, IN A SANDBOX (cutbox-rows.mjs): the forced cells as the released guide's own fill.sh prints them over the translation ec1f249cc567a2e9… (all of the seat's roots in one cut). By AI agents, Wed Nov 11 2026. No macro, syntax, notation, axiom, sorry.
-/
import Derived.Test.YtaffphidfhacjaaDoorChecked
import GoSem.PinnedTables
import GoSem.Claim
import GoSem.ClaimJoined
import GoSem.ClaimMapViews
import Derived.JoinedTies
import Derived.KernelRfl
namespace Go.Proofs.YtaffphidfhacjaaDoor
/- THE CELL 'sum', in the pinned program and in every row, IS THE sha256 OF THE DUMP (.gsa) THAT YtaffphidfhacjaaDoorProg.lean LOADS. Nothing in Lean hashes anything: it is a label: what it is worth is what the hold of that sum in a sandbox is worth. -/
noncomputable def Tryd.pinned : Pinned := { name := "ytaffphidfhacjaadoor", sum := "ec1f249cc567a2e9027a859ab47a39a0dea8f8e6911597f213b911a2c080ee84", checked := Tryd.checked }
namespace Rows
def none {H : Type} : Left H := { results := [], args := [] }

/- WHAT THE LISTED PACKAGE-LEVEL VARIABLES READ AS WHEN THE CALL BEGINS. Each datum BY PROGRAM (the guide's laid-datum.mjs) off the statement by which the dump's own 'gosem.cut.vars' lays the variable. In a bare row this is a premise. The card (YtaffphidfhacjaaDoorCards.lean) ties it to the program's text. -/
def laid_unicode_utf8_acceptRanges {H : Type} : DataW H := .agg [.agg [.lit (.int .u8 128), .lit (.int .u8 191)], .agg [.lit (.int .u8 160), .lit (.int .u8 191)], .agg [.lit (.int .u8 128), .lit (.int .u8 159)], .agg [.lit (.int .u8 144), .lit (.int .u8 191)], .agg [.lit (.int .u8 128), .lit (.int .u8 143)], .agg [.lit (.int .u8 0), .lit (.int .u8 0)], .agg [.lit (.int .u8 0), .lit (.int .u8 0)], .agg [.lit (.int .u8 0), .lit (.int .u8 0)], .agg [.lit (.int .u8 0), .lit (.int .u8 0)], .agg [.lit (.int .u8 0), .lit (.int .u8 0)], .agg [.lit (.int .u8 0), .lit (.int .u8 0)], .agg [.lit (.int .u8 0), .lit (.int .u8 0)], .agg [.lit (.int .u8 0), .lit (.int .u8 0)], .agg [.lit (.int .u8 0), .lit (.int .u8 0)], .agg [.lit (.int .u8 0), .lit (.int .u8 0)], .agg [.lit (.int .u8 0), .lit (.int .u8 0)]]
/-- One of Go's own tables, pinned by name: the form's constant. -/
def laid_unicode_utf8_first : DataW Unit := Go.Pinned.utf8First

/-- 'laws.FnExactAreChosenConsistent': WHATEVER THE INPUT: true; the input reads as it did. -/
def fnExactAreChosenConsistentSpec : ChangeSpec := { name := "fnExactAreChosenConsistent", fn := fun _ => fun
  | [d1, d2] => { results := [.lit (.bool true)], args := [d1, d2] }
  | _ => none }
def fnExactAreChosenConsistentRow : OpenClaim := { program := "ytaffphidfhacjaadoor", sum := "ec1f249cc567a2e9027a859ab47a39a0dea8f8e6911597f213b911a2c080ee84", func := "loop.example/g01030/laws.FnExactAreChosenConsistent", spec := "fnExactAreChosenConsistent", inPlace := ["internal/bytealg.IndexByteString", "internal/bytealg.IndexString", "internal/bytealg.CountString"], unfollowed := true, recurses := true, named := ["unicode/utf8.first", "unicode/utf8.acceptRanges", "internal/bytealg.MaxLen"], apart := false, laid := [("unicode/utf8.acceptRanges", laid_unicode_utf8_acceptRanges), ("unicode/utf8.first", laid_unicode_utf8_first)] }
def FnExactAreChosenConsistentSaid : Prop := fnExactAreChosenConsistentRow.holds Tryd.pinned (OpenSpec.ofChange fnExactAreChosenConsistentSpec)

/-- ITS FALSE NEIGHBOUR: 'it returns false'. Refute it at one input. -/
def fnExactAreChosenConsistentWrong : ChangeSpec := { name := "fnExactAreChosenConsistent", fn := fun _ => fun
  | [d1, d2] => { results := [.lit (.bool false)], args := [d1, d2] }
  | _ => none }
def FnExactAreChosenConsistentWrongFalsely : Prop := fnExactAreChosenConsistentRow.holds Tryd.pinned (OpenSpec.ofChange fnExactAreChosenConsistentWrong)

/-- 'laws.FnExactExistsBy': WHATEVER THE INPUT: true; the input reads as it did. -/
def fnExactExistsBySpec : ChangeSpec := { name := "fnExactExistsBy", fn := fun _ => fun
  | [d1, d2, d3] => { results := [.lit (.bool true)], args := [d1, d2, d3] }
  | _ => none }
def fnExactExistsByRow : OpenClaim := { program := "ytaffphidfhacjaadoor", sum := "ec1f249cc567a2e9027a859ab47a39a0dea8f8e6911597f213b911a2c080ee84", func := "loop.example/g01030/laws.FnExactExistsBy", spec := "fnExactExistsBy", inPlace := ["internal/bytealg.IndexByteString", "internal/bytealg.IndexString", "internal/bytealg.CountString"], unfollowed := true, recurses := true, named := ["unicode/utf8.first", "unicode/utf8.acceptRanges", "internal/bytealg.MaxLen"], apart := false, laid := [("unicode/utf8.acceptRanges", laid_unicode_utf8_acceptRanges), ("unicode/utf8.first", laid_unicode_utf8_first)] }
def FnExactExistsBySaid : Prop := fnExactExistsByRow.holds Tryd.pinned (OpenSpec.ofChange fnExactExistsBySpec)

/-- ITS FALSE NEIGHBOUR: 'it returns false'. Refute it at one input. -/
def fnExactExistsByWrong : ChangeSpec := { name := "fnExactExistsBy", fn := fun _ => fun
  | [d1, d2, d3] => { results := [.lit (.bool false)], args := [d1, d2, d3] }
  | _ => none }
def FnExactExistsByWrongFalsely : Prop := fnExactExistsByRow.holds Tryd.pinned (OpenSpec.ofChange fnExactExistsByWrong)

/-- 'laws.FnExactIsRepair': WHATEVER THE INPUT: true; the input reads as it did. -/
def fnExactIsRepairSpec : ChangeSpec := { name := "fnExactIsRepair", fn := fun _ => fun
  | [d1, d2] => { results := [.lit (.bool true)], args := [d1, d2] }
  | _ => none }
def fnExactIsRepairRow : OpenClaim := { program := "ytaffphidfhacjaadoor", sum := "ec1f249cc567a2e9027a859ab47a39a0dea8f8e6911597f213b911a2c080ee84", func := "loop.example/g01030/laws.FnExactIsRepair", spec := "fnExactIsRepair", inPlace := ["internal/bytealg.IndexByteString", "internal/bytealg.IndexString", "internal/bytealg.CountString"], unfollowed := true, recurses := true, named := ["unicode/utf8.first", "unicode/utf8.acceptRanges", "internal/bytealg.MaxLen"], apart := false, laid := [("unicode/utf8.acceptRanges", laid_unicode_utf8_acceptRanges), ("unicode/utf8.first", laid_unicode_utf8_first)] }
def FnExactIsRepairSaid : Prop := fnExactIsRepairRow.holds Tryd.pinned (OpenSpec.ofChange fnExactIsRepairSpec)

/-- ITS FALSE NEIGHBOUR: 'it returns false'. Refute it at one input. -/
def fnExactIsRepairWrong : ChangeSpec := { name := "fnExactIsRepair", fn := fun _ => fun
  | [d1, d2] => { results := [.lit (.bool false)], args := [d1, d2] }
  | _ => none }
def FnExactIsRepairWrongFalsely : Prop := fnExactIsRepairRow.holds Tryd.pinned (OpenSpec.ofChange fnExactIsRepairWrong)

/-- 'laws.FnExactHitsAll': WHATEVER THE INPUT: true; the input reads as it did. -/
def fnExactHitsAllSpec : ChangeSpec := { name := "fnExactHitsAll", fn := fun _ => fun
  | [d1, d2] => { results := [.lit (.bool true)], args := [d1, d2] }
  | _ => none }
def fnExactHitsAllRow : OpenClaim := { program := "ytaffphidfhacjaadoor", sum := "ec1f249cc567a2e9027a859ab47a39a0dea8f8e6911597f213b911a2c080ee84", func := "loop.example/g01030/laws.FnExactHitsAll", spec := "fnExactHitsAll", inPlace := ["internal/bytealg.IndexByteString", "internal/bytealg.IndexString", "internal/bytealg.CountString"], unfollowed := true, recurses := true, named := ["unicode/utf8.first", "unicode/utf8.acceptRanges", "internal/bytealg.MaxLen"], apart := false, laid := [("unicode/utf8.acceptRanges", laid_unicode_utf8_acceptRanges), ("unicode/utf8.first", laid_unicode_utf8_first)] }
def FnExactHitsAllSaid : Prop := fnExactHitsAllRow.holds Tryd.pinned (OpenSpec.ofChange fnExactHitsAllSpec)

/-- ITS FALSE NEIGHBOUR: 'it returns false'. Refute it at one input. -/
def fnExactHitsAllWrong : ChangeSpec := { name := "fnExactHitsAll", fn := fun _ => fun
  | [d1, d2] => { results := [.lit (.bool false)], args := [d1, d2] }
  | _ => none }
def FnExactHitsAllWrongFalsely : Prop := fnExactHitsAllRow.holds Tryd.pinned (OpenSpec.ofChange fnExactHitsAllWrong)

/-- 'laws.FnExactIsCore': WHATEVER THE INPUT: true; the input reads as it did. -/
def fnExactIsCoreSpec : ChangeSpec := { name := "fnExactIsCore", fn := fun _ => fun
  | [d1, d2] => { results := [.lit (.bool true)], args := [d1, d2] }
  | _ => none }
def fnExactIsCoreRow : OpenClaim := { program := "ytaffphidfhacjaadoor", sum := "ec1f249cc567a2e9027a859ab47a39a0dea8f8e6911597f213b911a2c080ee84", func := "loop.example/g01030/laws.FnExactIsCore", spec := "fnExactIsCore", inPlace := ["internal/bytealg.IndexByteString", "internal/bytealg.IndexString", "internal/bytealg.CountString"], unfollowed := true, recurses := true, named := ["unicode/utf8.first", "unicode/utf8.acceptRanges", "internal/bytealg.MaxLen"], apart := false, laid := [("unicode/utf8.acceptRanges", laid_unicode_utf8_acceptRanges), ("unicode/utf8.first", laid_unicode_utf8_first)] }
def FnExactIsCoreSaid : Prop := fnExactIsCoreRow.holds Tryd.pinned (OpenSpec.ofChange fnExactIsCoreSpec)

/-- ITS FALSE NEIGHBOUR: 'it returns false'. Refute it at one input. -/
def fnExactIsCoreWrong : ChangeSpec := { name := "fnExactIsCore", fn := fun _ => fun
  | [d1, d2] => { results := [.lit (.bool false)], args := [d1, d2] }
  | _ => none }
def FnExactIsCoreWrongFalsely : Prop := fnExactIsCoreRow.holds Tryd.pinned (OpenSpec.ofChange fnExactIsCoreWrong)

/- THE SECOND FORM. 'bulk': how many values and letters a reading holds, each counted each time it is reached (what is shared counts as often as it is met; a slice's spare places count too). A statement '..UptoSaid' is the law's where the arguments, and the package variables that the reading takes, are together of bulk at most 1048576: NARROWER than '..Said'. Prove '..Said' where nothing that the law and all that it calls make is longer than what came in: it says more and counts as full. Else prove '..UptoSaid'. A law counts once. -/
mutual
def uptoBulk {H : Type} : DataW H → Nat
  | .lit (.string bytes) => bytes.length + 1
  | .lit _ => 1
  | .nil => 1
  | .ptr d => uptoBulk d + 1
  | .slice elems spare => uptoBulkAll elems + uptoBulkAll spare + 1
  | .agg parts => uptoBulkAll parts + 1
  | .iface _ d => uptoBulk d + 1
  | .map entries => uptoBulkEntries entries + 1
  | .held _ => 1
def uptoBulkAll {H : Type} : List (DataW H) → Nat
  | [] => 0
  | d :: r => uptoBulk d + uptoBulkAll r
def uptoBulkEntries {H : Type} : List (Lit × DataW H) → Nat
  | [] => 0
  | x :: r => uptoBulkEntry x + uptoBulkEntries r
def uptoBulkEntry {H : Type} : Lit × DataW H → Nat
  | (.string bytes, d) => bytes.length + uptoBulk d + 1
  | (_, d) => uptoBulk d + 1
 end
def uptoSmall : (H : Type) → List (DataW H) → Bool := fun _ ds => decide (uptoBulkAll ds ≤ 1048576)
def OpenSpec.upto (s : _root_.Go.ChangeSpec) : _root_.Go.OpenSpec := { _root_.Go.OpenSpec.ofChange s with cond := some uptoSmall }

/-- 'laws.FnExactAreChosenConsistent', WHERE WHAT IT READS IS OF BULK AT MOST 1048576: true; the input reads as it did. -/
def fnExactAreChosenConsistentUptoRow : OpenClaim := { program := "ytaffphidfhacjaadoor", sum := "ec1f249cc567a2e9027a859ab47a39a0dea8f8e6911597f213b911a2c080ee84", func := "loop.example/g01030/laws.FnExactAreChosenConsistent", spec := "fnExactAreChosenConsistent", inPlace := ["internal/bytealg.IndexByteString", "internal/bytealg.IndexString", "internal/bytealg.CountString"], unfollowed := true, recurses := true, named := ["unicode/utf8.first", "unicode/utf8.acceptRanges", "internal/bytealg.MaxLen"], apart := false, laid := [("unicode/utf8.acceptRanges", laid_unicode_utf8_acceptRanges), ("unicode/utf8.first", laid_unicode_utf8_first)], narrowed := true }
def FnExactAreChosenConsistentUptoSaid : Prop := fnExactAreChosenConsistentUptoRow.holds Tryd.pinned (OpenSpec.upto fnExactAreChosenConsistentSpec)

/-- 'laws.FnExactExistsBy', WHERE WHAT IT READS IS OF BULK AT MOST 1048576: true; the input reads as it did. -/
def fnExactExistsByUptoRow : OpenClaim := { program := "ytaffphidfhacjaadoor", sum := "ec1f249cc567a2e9027a859ab47a39a0dea8f8e6911597f213b911a2c080ee84", func := "loop.example/g01030/laws.FnExactExistsBy", spec := "fnExactExistsBy", inPlace := ["internal/bytealg.IndexByteString", "internal/bytealg.IndexString", "internal/bytealg.CountString"], unfollowed := true, recurses := true, named := ["unicode/utf8.first", "unicode/utf8.acceptRanges", "internal/bytealg.MaxLen"], apart := false, laid := [("unicode/utf8.acceptRanges", laid_unicode_utf8_acceptRanges), ("unicode/utf8.first", laid_unicode_utf8_first)], narrowed := true }
def FnExactExistsByUptoSaid : Prop := fnExactExistsByUptoRow.holds Tryd.pinned (OpenSpec.upto fnExactExistsBySpec)

/-- 'laws.FnExactIsRepair', WHERE WHAT IT READS IS OF BULK AT MOST 1048576: true; the input reads as it did. -/
def fnExactIsRepairUptoRow : OpenClaim := { program := "ytaffphidfhacjaadoor", sum := "ec1f249cc567a2e9027a859ab47a39a0dea8f8e6911597f213b911a2c080ee84", func := "loop.example/g01030/laws.FnExactIsRepair", spec := "fnExactIsRepair", inPlace := ["internal/bytealg.IndexByteString", "internal/bytealg.IndexString", "internal/bytealg.CountString"], unfollowed := true, recurses := true, named := ["unicode/utf8.first", "unicode/utf8.acceptRanges", "internal/bytealg.MaxLen"], apart := false, laid := [("unicode/utf8.acceptRanges", laid_unicode_utf8_acceptRanges), ("unicode/utf8.first", laid_unicode_utf8_first)], narrowed := true }
def FnExactIsRepairUptoSaid : Prop := fnExactIsRepairUptoRow.holds Tryd.pinned (OpenSpec.upto fnExactIsRepairSpec)

/-- 'laws.FnExactHitsAll', WHERE WHAT IT READS IS OF BULK AT MOST 1048576: true; the input reads as it did. -/
def fnExactHitsAllUptoRow : OpenClaim := { program := "ytaffphidfhacjaadoor", sum := "ec1f249cc567a2e9027a859ab47a39a0dea8f8e6911597f213b911a2c080ee84", func := "loop.example/g01030/laws.FnExactHitsAll", spec := "fnExactHitsAll", inPlace := ["internal/bytealg.IndexByteString", "internal/bytealg.IndexString", "internal/bytealg.CountString"], unfollowed := true, recurses := true, named := ["unicode/utf8.first", "unicode/utf8.acceptRanges", "internal/bytealg.MaxLen"], apart := false, laid := [("unicode/utf8.acceptRanges", laid_unicode_utf8_acceptRanges), ("unicode/utf8.first", laid_unicode_utf8_first)], narrowed := true }
def FnExactHitsAllUptoSaid : Prop := fnExactHitsAllUptoRow.holds Tryd.pinned (OpenSpec.upto fnExactHitsAllSpec)

/-- 'laws.FnExactIsCore', WHERE WHAT IT READS IS OF BULK AT MOST 1048576: true; the input reads as it did. -/
def fnExactIsCoreUptoRow : OpenClaim := { program := "ytaffphidfhacjaadoor", sum := "ec1f249cc567a2e9027a859ab47a39a0dea8f8e6911597f213b911a2c080ee84", func := "loop.example/g01030/laws.FnExactIsCore", spec := "fnExactIsCore", inPlace := ["internal/bytealg.IndexByteString", "internal/bytealg.IndexString", "internal/bytealg.CountString"], unfollowed := true, recurses := true, named := ["unicode/utf8.first", "unicode/utf8.acceptRanges", "internal/bytealg.MaxLen"], apart := false, laid := [("unicode/utf8.acceptRanges", laid_unicode_utf8_acceptRanges), ("unicode/utf8.first", laid_unicode_utf8_first)], narrowed := true }
def FnExactIsCoreUptoSaid : Prop := fnExactIsCoreUptoRow.holds Tryd.pinned (OpenSpec.upto fnExactIsCoreSpec)

end Rows
end Go.Proofs.YtaffphidfhacjaaDoor
