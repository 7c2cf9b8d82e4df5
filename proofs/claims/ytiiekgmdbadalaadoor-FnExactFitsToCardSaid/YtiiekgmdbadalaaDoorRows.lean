/-
  NARROWER THAN 'FOR EVERY INPUT', by the rows' own cells (each row's printed sentence says how): FnExactIsFact: laid · FnExactIsClaim: laid · FnExactDoContradict: laid · FnExactAreClaims: laid · FnExactWeightOf: laid · FnExactClaimsAbout: laid · FnExactContradictionsOf: laid · FnExactPairsOf: laid · FnExactAreConsistent: laid · FnExactCircleIn: laid · FnExactFitsTo: laid · FnExactKeptClaims: laid.
  DERIVED. THE GIVEN ROWS OF THIS SEAT. 12 by the template 'for every input the law returns true; each argument reads behind the call as it read before'; 0 by the template 'total and deterministic' (their statements: YtiiekgmdbadalaaDoorTotals.lean).
  GIVEN WITH THE SEED: the statements are not yours to turn. If you find one false, say at which input.
  Laid BY PROGRAM, IN A SANDBOX (cutbox-rows.mjs): the forced cells as the released guide's own fill.sh prints them over the translation 716166931a95f418… (all of the seat's roots in one cut). By AI agents, Wed Nov 11 2026. No macro, syntax, notation, axiom, sorry.
-/
import Derived.Test.YtiiekgmdbadalaaDoorChecked
import GoSem.PinnedTables
import GoSem.Claim
import GoSem.ClaimJoined
import GoSem.ClaimMapViews
import Derived.JoinedTies
import Derived.KernelRfl
namespace Go.Proofs.YtiiekgmdbadalaaDoor
/- THE CELL 'sum', in the pinned program and in every row, IS THE sha256 OF THE DUMP (.gsa) THAT YtiiekgmdbadalaaDoorProg.lean LOADS. Nothing in Lean hashes anything: it is a label: what it is worth is what the hold of that sum in a sandbox is worth. -/
noncomputable def Tryd.pinned : Pinned := { name := "ytiiekgmdbadalaadoor", sum := "716166931a95f4186f08692b581146906097c88af3551c904508766534c01647", checked := Tryd.checked }
namespace Rows
def none {H : Type} : Left H := { results := [], args := [] }

/- WHAT THE LISTED PACKAGE-LEVEL VARIABLES READ AS WHEN THE CALL BEGINS. Each datum BY PROGRAM (the guide's laid-datum.mjs) off the statement by which the dump's own 'gosem.cut.vars' lays the variable. In a bare row this is a premise. The card (YtiiekgmdbadalaaDoorCards.lean) ties it to the program's text. -/
def laid_unicode_utf8_acceptRanges {H : Type} : DataW H := .agg [.agg [.lit (.int .u8 128), .lit (.int .u8 191)], .agg [.lit (.int .u8 160), .lit (.int .u8 191)], .agg [.lit (.int .u8 128), .lit (.int .u8 159)], .agg [.lit (.int .u8 144), .lit (.int .u8 191)], .agg [.lit (.int .u8 128), .lit (.int .u8 143)], .agg [.lit (.int .u8 0), .lit (.int .u8 0)], .agg [.lit (.int .u8 0), .lit (.int .u8 0)], .agg [.lit (.int .u8 0), .lit (.int .u8 0)], .agg [.lit (.int .u8 0), .lit (.int .u8 0)], .agg [.lit (.int .u8 0), .lit (.int .u8 0)], .agg [.lit (.int .u8 0), .lit (.int .u8 0)], .agg [.lit (.int .u8 0), .lit (.int .u8 0)], .agg [.lit (.int .u8 0), .lit (.int .u8 0)], .agg [.lit (.int .u8 0), .lit (.int .u8 0)], .agg [.lit (.int .u8 0), .lit (.int .u8 0)], .agg [.lit (.int .u8 0), .lit (.int .u8 0)]]
/-- One of Go's own tables, pinned by name: the form's constant. -/
def laid_unicode_utf8_first : DataW Unit := Go.Pinned.utf8First

/-- 'laws.FnExactIsFact': WHATEVER THE INPUT: true; the input reads as it did. -/
def fnExactIsFactSpec : ChangeSpec := { name := "fnExactIsFact", fn := fun _ => fun
  | [d] => { results := [.lit (.bool true)], args := [d] }
  | _ => none }
def fnExactIsFactRow : OpenClaim := { program := "ytiiekgmdbadalaadoor", sum := "716166931a95f4186f08692b581146906097c88af3551c904508766534c01647", func := "loop.example/g01030/laws.FnExactIsFact", spec := "fnExactIsFact", inPlace := ["internal/bytealg.IndexByteString", "internal/bytealg.IndexString", "internal/bytealg.CountString"], named := ["unicode/utf8.first", "unicode/utf8.acceptRanges", "internal/bytealg.MaxLen"], apart := false, laid := [("unicode/utf8.acceptRanges", laid_unicode_utf8_acceptRanges), ("unicode/utf8.first", laid_unicode_utf8_first)] }
def FnExactIsFactSaid : Prop := fnExactIsFactRow.holds Tryd.pinned (OpenSpec.ofChange fnExactIsFactSpec)

/-- ITS FALSE NEIGHBOUR: 'it returns false'. Refute it at one input. -/
def fnExactIsFactWrong : ChangeSpec := { name := "fnExactIsFact", fn := fun _ => fun
  | [d] => { results := [.lit (.bool false)], args := [d] }
  | _ => none }
def FnExactIsFactWrongFalsely : Prop := fnExactIsFactRow.holds Tryd.pinned (OpenSpec.ofChange fnExactIsFactWrong)

/-- 'laws.FnExactIsClaim': WHATEVER THE INPUT: true; the input reads as it did. -/
def fnExactIsClaimSpec : ChangeSpec := { name := "fnExactIsClaim", fn := fun _ => fun
  | [d] => { results := [.lit (.bool true)], args := [d] }
  | _ => none }
def fnExactIsClaimRow : OpenClaim := { program := "ytiiekgmdbadalaadoor", sum := "716166931a95f4186f08692b581146906097c88af3551c904508766534c01647", func := "loop.example/g01030/laws.FnExactIsClaim", spec := "fnExactIsClaim", inPlace := ["internal/bytealg.IndexByteString", "internal/bytealg.IndexString", "internal/bytealg.CountString"], named := ["unicode/utf8.first", "unicode/utf8.acceptRanges", "internal/bytealg.MaxLen"], apart := false, laid := [("unicode/utf8.acceptRanges", laid_unicode_utf8_acceptRanges), ("unicode/utf8.first", laid_unicode_utf8_first)] }
def FnExactIsClaimSaid : Prop := fnExactIsClaimRow.holds Tryd.pinned (OpenSpec.ofChange fnExactIsClaimSpec)

/-- ITS FALSE NEIGHBOUR: 'it returns false'. Refute it at one input. -/
def fnExactIsClaimWrong : ChangeSpec := { name := "fnExactIsClaim", fn := fun _ => fun
  | [d] => { results := [.lit (.bool false)], args := [d] }
  | _ => none }
def FnExactIsClaimWrongFalsely : Prop := fnExactIsClaimRow.holds Tryd.pinned (OpenSpec.ofChange fnExactIsClaimWrong)

/-- 'laws.FnExactDoContradict': WHATEVER THE INPUT: true; the input reads as it did. -/
def fnExactDoContradictSpec : ChangeSpec := { name := "fnExactDoContradict", fn := fun _ => fun
  | [d1, d2] => { results := [.lit (.bool true)], args := [d1, d2] }
  | _ => none }
def fnExactDoContradictRow : OpenClaim := { program := "ytiiekgmdbadalaadoor", sum := "716166931a95f4186f08692b581146906097c88af3551c904508766534c01647", func := "loop.example/g01030/laws.FnExactDoContradict", spec := "fnExactDoContradict", inPlace := ["internal/bytealg.IndexByteString", "internal/bytealg.IndexString", "internal/bytealg.CountString"], named := ["unicode/utf8.first", "unicode/utf8.acceptRanges", "internal/bytealg.MaxLen"], apart := false, laid := [("unicode/utf8.acceptRanges", laid_unicode_utf8_acceptRanges), ("unicode/utf8.first", laid_unicode_utf8_first)] }
def FnExactDoContradictSaid : Prop := fnExactDoContradictRow.holds Tryd.pinned (OpenSpec.ofChange fnExactDoContradictSpec)

/-- ITS FALSE NEIGHBOUR: 'it returns false'. Refute it at one input. -/
def fnExactDoContradictWrong : ChangeSpec := { name := "fnExactDoContradict", fn := fun _ => fun
  | [d1, d2] => { results := [.lit (.bool false)], args := [d1, d2] }
  | _ => none }
def FnExactDoContradictWrongFalsely : Prop := fnExactDoContradictRow.holds Tryd.pinned (OpenSpec.ofChange fnExactDoContradictWrong)

/-- 'laws.FnExactAreClaims': WHATEVER THE INPUT: true; the input reads as it did. -/
def fnExactAreClaimsSpec : ChangeSpec := { name := "fnExactAreClaims", fn := fun _ => fun
  | [d] => { results := [.lit (.bool true)], args := [d] }
  | _ => none }
def fnExactAreClaimsRow : OpenClaim := { program := "ytiiekgmdbadalaadoor", sum := "716166931a95f4186f08692b581146906097c88af3551c904508766534c01647", func := "loop.example/g01030/laws.FnExactAreClaims", spec := "fnExactAreClaims", inPlace := ["internal/bytealg.IndexByteString", "internal/bytealg.IndexString", "internal/bytealg.CountString"], unfollowed := true, recurses := true, named := ["unicode/utf8.first", "unicode/utf8.acceptRanges", "internal/bytealg.MaxLen"], apart := false, laid := [("unicode/utf8.acceptRanges", laid_unicode_utf8_acceptRanges), ("unicode/utf8.first", laid_unicode_utf8_first)] }
def FnExactAreClaimsSaid : Prop := fnExactAreClaimsRow.holds Tryd.pinned (OpenSpec.ofChange fnExactAreClaimsSpec)

/-- ITS FALSE NEIGHBOUR: 'it returns false'. Refute it at one input. -/
def fnExactAreClaimsWrong : ChangeSpec := { name := "fnExactAreClaims", fn := fun _ => fun
  | [d] => { results := [.lit (.bool false)], args := [d] }
  | _ => none }
def FnExactAreClaimsWrongFalsely : Prop := fnExactAreClaimsRow.holds Tryd.pinned (OpenSpec.ofChange fnExactAreClaimsWrong)

/-- 'laws.FnExactWeightOf': WHATEVER THE INPUT: true; the input reads as it did. -/
def fnExactWeightOfSpec : ChangeSpec := { name := "fnExactWeightOf", fn := fun _ => fun
  | [d1, d2] => { results := [.lit (.bool true)], args := [d1, d2] }
  | _ => none }
def fnExactWeightOfRow : OpenClaim := { program := "ytiiekgmdbadalaadoor", sum := "716166931a95f4186f08692b581146906097c88af3551c904508766534c01647", func := "loop.example/g01030/laws.FnExactWeightOf", spec := "fnExactWeightOf", inPlace := ["internal/bytealg.IndexByteString", "internal/bytealg.IndexString", "internal/bytealg.CountString"], unfollowed := true, recurses := true, named := ["unicode/utf8.first", "unicode/utf8.acceptRanges", "internal/bytealg.MaxLen"], apart := false, laid := [("unicode/utf8.acceptRanges", laid_unicode_utf8_acceptRanges), ("unicode/utf8.first", laid_unicode_utf8_first)] }
def FnExactWeightOfSaid : Prop := fnExactWeightOfRow.holds Tryd.pinned (OpenSpec.ofChange fnExactWeightOfSpec)

/-- ITS FALSE NEIGHBOUR: 'it returns false'. Refute it at one input. -/
def fnExactWeightOfWrong : ChangeSpec := { name := "fnExactWeightOf", fn := fun _ => fun
  | [d1, d2] => { results := [.lit (.bool false)], args := [d1, d2] }
  | _ => none }
def FnExactWeightOfWrongFalsely : Prop := fnExactWeightOfRow.holds Tryd.pinned (OpenSpec.ofChange fnExactWeightOfWrong)

/-- 'laws.FnExactClaimsAbout': WHATEVER THE INPUT: true; the input reads as it did. -/
def fnExactClaimsAboutSpec : ChangeSpec := { name := "fnExactClaimsAbout", fn := fun _ => fun
  | [d1, d2, d3] => { results := [.lit (.bool true)], args := [d1, d2, d3] }
  | _ => none }
def fnExactClaimsAboutRow : OpenClaim := { program := "ytiiekgmdbadalaadoor", sum := "716166931a95f4186f08692b581146906097c88af3551c904508766534c01647", func := "loop.example/g01030/laws.FnExactClaimsAbout", spec := "fnExactClaimsAbout", inPlace := ["internal/bytealg.IndexByteString", "internal/bytealg.IndexString", "internal/bytealg.CountString"], unfollowed := true, recurses := true, named := ["unicode/utf8.first", "unicode/utf8.acceptRanges", "internal/bytealg.MaxLen"], apart := false, laid := [("unicode/utf8.acceptRanges", laid_unicode_utf8_acceptRanges), ("unicode/utf8.first", laid_unicode_utf8_first)] }
def FnExactClaimsAboutSaid : Prop := fnExactClaimsAboutRow.holds Tryd.pinned (OpenSpec.ofChange fnExactClaimsAboutSpec)

/-- ITS FALSE NEIGHBOUR: 'it returns false'. Refute it at one input. -/
def fnExactClaimsAboutWrong : ChangeSpec := { name := "fnExactClaimsAbout", fn := fun _ => fun
  | [d1, d2, d3] => { results := [.lit (.bool false)], args := [d1, d2, d3] }
  | _ => none }
def FnExactClaimsAboutWrongFalsely : Prop := fnExactClaimsAboutRow.holds Tryd.pinned (OpenSpec.ofChange fnExactClaimsAboutWrong)

/-- 'laws.FnExactContradictionsOf': WHATEVER THE INPUT: true; the input reads as it did. -/
def fnExactContradictionsOfSpec : ChangeSpec := { name := "fnExactContradictionsOf", fn := fun _ => fun
  | [d1, d2] => { results := [.lit (.bool true)], args := [d1, d2] }
  | _ => none }
def fnExactContradictionsOfRow : OpenClaim := { program := "ytiiekgmdbadalaadoor", sum := "716166931a95f4186f08692b581146906097c88af3551c904508766534c01647", func := "loop.example/g01030/laws.FnExactContradictionsOf", spec := "fnExactContradictionsOf", inPlace := ["internal/bytealg.IndexByteString", "internal/bytealg.IndexString", "internal/bytealg.CountString"], unfollowed := true, recurses := true, named := ["unicode/utf8.first", "unicode/utf8.acceptRanges", "internal/bytealg.MaxLen"], apart := false, laid := [("unicode/utf8.acceptRanges", laid_unicode_utf8_acceptRanges), ("unicode/utf8.first", laid_unicode_utf8_first)] }
def FnExactContradictionsOfSaid : Prop := fnExactContradictionsOfRow.holds Tryd.pinned (OpenSpec.ofChange fnExactContradictionsOfSpec)

/-- ITS FALSE NEIGHBOUR: 'it returns false'. Refute it at one input. -/
def fnExactContradictionsOfWrong : ChangeSpec := { name := "fnExactContradictionsOf", fn := fun _ => fun
  | [d1, d2] => { results := [.lit (.bool false)], args := [d1, d2] }
  | _ => none }
def FnExactContradictionsOfWrongFalsely : Prop := fnExactContradictionsOfRow.holds Tryd.pinned (OpenSpec.ofChange fnExactContradictionsOfWrong)

/-- 'laws.FnExactPairsOf': WHATEVER THE INPUT: true; the input reads as it did. -/
def fnExactPairsOfSpec : ChangeSpec := { name := "fnExactPairsOf", fn := fun _ => fun
  | [d] => { results := [.lit (.bool true)], args := [d] }
  | _ => none }
def fnExactPairsOfRow : OpenClaim := { program := "ytiiekgmdbadalaadoor", sum := "716166931a95f4186f08692b581146906097c88af3551c904508766534c01647", func := "loop.example/g01030/laws.FnExactPairsOf", spec := "fnExactPairsOf", inPlace := ["internal/bytealg.IndexByteString", "internal/bytealg.IndexString", "internal/bytealg.CountString"], unfollowed := true, recurses := true, named := ["unicode/utf8.first", "unicode/utf8.acceptRanges", "internal/bytealg.MaxLen"], apart := false, laid := [("unicode/utf8.acceptRanges", laid_unicode_utf8_acceptRanges), ("unicode/utf8.first", laid_unicode_utf8_first)] }
def FnExactPairsOfSaid : Prop := fnExactPairsOfRow.holds Tryd.pinned (OpenSpec.ofChange fnExactPairsOfSpec)

/-- ITS FALSE NEIGHBOUR: 'it returns false'. Refute it at one input. -/
def fnExactPairsOfWrong : ChangeSpec := { name := "fnExactPairsOf", fn := fun _ => fun
  | [d] => { results := [.lit (.bool false)], args := [d] }
  | _ => none }
def FnExactPairsOfWrongFalsely : Prop := fnExactPairsOfRow.holds Tryd.pinned (OpenSpec.ofChange fnExactPairsOfWrong)

/-- 'laws.FnExactAreConsistent': WHATEVER THE INPUT: true; the input reads as it did. -/
def fnExactAreConsistentSpec : ChangeSpec := { name := "fnExactAreConsistent", fn := fun _ => fun
  | [d] => { results := [.lit (.bool true)], args := [d] }
  | _ => none }
def fnExactAreConsistentRow : OpenClaim := { program := "ytiiekgmdbadalaadoor", sum := "716166931a95f4186f08692b581146906097c88af3551c904508766534c01647", func := "loop.example/g01030/laws.FnExactAreConsistent", spec := "fnExactAreConsistent", inPlace := ["internal/bytealg.IndexByteString", "internal/bytealg.IndexString", "internal/bytealg.CountString"], unfollowed := true, recurses := true, named := ["unicode/utf8.first", "unicode/utf8.acceptRanges", "internal/bytealg.MaxLen"], apart := false, laid := [("unicode/utf8.acceptRanges", laid_unicode_utf8_acceptRanges), ("unicode/utf8.first", laid_unicode_utf8_first)] }
def FnExactAreConsistentSaid : Prop := fnExactAreConsistentRow.holds Tryd.pinned (OpenSpec.ofChange fnExactAreConsistentSpec)

/-- ITS FALSE NEIGHBOUR: 'it returns false'. Refute it at one input. -/
def fnExactAreConsistentWrong : ChangeSpec := { name := "fnExactAreConsistent", fn := fun _ => fun
  | [d] => { results := [.lit (.bool false)], args := [d] }
  | _ => none }
def FnExactAreConsistentWrongFalsely : Prop := fnExactAreConsistentRow.holds Tryd.pinned (OpenSpec.ofChange fnExactAreConsistentWrong)

/-- 'laws.FnExactCircleIn': WHATEVER THE INPUT: true; the input reads as it did. -/
def fnExactCircleInSpec : ChangeSpec := { name := "fnExactCircleIn", fn := fun _ => fun
  | [d1, d2, d3] => { results := [.lit (.bool true)], args := [d1, d2, d3] }
  | _ => none }
def fnExactCircleInRow : OpenClaim := { program := "ytiiekgmdbadalaadoor", sum := "716166931a95f4186f08692b581146906097c88af3551c904508766534c01647", func := "loop.example/g01030/laws.FnExactCircleIn", spec := "fnExactCircleIn", inPlace := ["internal/bytealg.IndexByteString", "internal/bytealg.IndexString", "internal/bytealg.CountString"], unfollowed := true, recurses := true, named := ["unicode/utf8.first", "unicode/utf8.acceptRanges", "internal/bytealg.MaxLen"], apart := false, laid := [("unicode/utf8.acceptRanges", laid_unicode_utf8_acceptRanges), ("unicode/utf8.first", laid_unicode_utf8_first)] }
def FnExactCircleInSaid : Prop := fnExactCircleInRow.holds Tryd.pinned (OpenSpec.ofChange fnExactCircleInSpec)

/-- ITS FALSE NEIGHBOUR: 'it returns false'. Refute it at one input. -/
def fnExactCircleInWrong : ChangeSpec := { name := "fnExactCircleIn", fn := fun _ => fun
  | [d1, d2, d3] => { results := [.lit (.bool false)], args := [d1, d2, d3] }
  | _ => none }
def FnExactCircleInWrongFalsely : Prop := fnExactCircleInRow.holds Tryd.pinned (OpenSpec.ofChange fnExactCircleInWrong)

/-- 'laws.FnExactFitsTo': WHATEVER THE INPUT: true; the input reads as it did. -/
def fnExactFitsToSpec : ChangeSpec := { name := "fnExactFitsTo", fn := fun _ => fun
  | [d1, d2] => { results := [.lit (.bool true)], args := [d1, d2] }
  | _ => none }
def fnExactFitsToRow : OpenClaim := { program := "ytiiekgmdbadalaadoor", sum := "716166931a95f4186f08692b581146906097c88af3551c904508766534c01647", func := "loop.example/g01030/laws.FnExactFitsTo", spec := "fnExactFitsTo", inPlace := ["internal/bytealg.IndexByteString", "internal/bytealg.IndexString", "internal/bytealg.CountString"], unfollowed := true, recurses := true, named := ["unicode/utf8.first", "unicode/utf8.acceptRanges", "internal/bytealg.MaxLen"], apart := false, laid := [("unicode/utf8.acceptRanges", laid_unicode_utf8_acceptRanges), ("unicode/utf8.first", laid_unicode_utf8_first)] }
def FnExactFitsToSaid : Prop := fnExactFitsToRow.holds Tryd.pinned (OpenSpec.ofChange fnExactFitsToSpec)

/-- ITS FALSE NEIGHBOUR: 'it returns false'. Refute it at one input. -/
def fnExactFitsToWrong : ChangeSpec := { name := "fnExactFitsTo", fn := fun _ => fun
  | [d1, d2] => { results := [.lit (.bool false)], args := [d1, d2] }
  | _ => none }
def FnExactFitsToWrongFalsely : Prop := fnExactFitsToRow.holds Tryd.pinned (OpenSpec.ofChange fnExactFitsToWrong)

/-- 'laws.FnExactKeptClaims': WHATEVER THE INPUT: true; the input reads as it did. -/
def fnExactKeptClaimsSpec : ChangeSpec := { name := "fnExactKeptClaims", fn := fun _ => fun
  | [d1, d2] => { results := [.lit (.bool true)], args := [d1, d2] }
  | _ => none }
def fnExactKeptClaimsRow : OpenClaim := { program := "ytiiekgmdbadalaadoor", sum := "716166931a95f4186f08692b581146906097c88af3551c904508766534c01647", func := "loop.example/g01030/laws.FnExactKeptClaims", spec := "fnExactKeptClaims", inPlace := ["internal/bytealg.IndexByteString", "internal/bytealg.IndexString", "internal/bytealg.CountString"], unfollowed := true, recurses := true, named := ["unicode/utf8.first", "unicode/utf8.acceptRanges", "internal/bytealg.MaxLen"], apart := false, laid := [("unicode/utf8.acceptRanges", laid_unicode_utf8_acceptRanges), ("unicode/utf8.first", laid_unicode_utf8_first)] }
def FnExactKeptClaimsSaid : Prop := fnExactKeptClaimsRow.holds Tryd.pinned (OpenSpec.ofChange fnExactKeptClaimsSpec)

/-- ITS FALSE NEIGHBOUR: 'it returns false'. Refute it at one input. -/
def fnExactKeptClaimsWrong : ChangeSpec := { name := "fnExactKeptClaims", fn := fun _ => fun
  | [d1, d2] => { results := [.lit (.bool false)], args := [d1, d2] }
  | _ => none }
def FnExactKeptClaimsWrongFalsely : Prop := fnExactKeptClaimsRow.holds Tryd.pinned (OpenSpec.ofChange fnExactKeptClaimsWrong)

/- THE SECOND FORM. 'bulk': how many values and letters a reading holds, each counted each time it is reached (what is shared counts as often as it is met; a slice's spare places count too). A statement '..UptoSaid' is the law's where the arguments, and the package variables that the reading takes, are together of bulk at most 1048576: NARROWER than '..Said'. Prove '..Said' where nothing that the law and all that it calls make is longer than what came in: it says more and counts as full. Else prove '..UptoSaid'. A law counts once. -/
mutual
def uptoBulk {H : Type} : DataW H → Nat
  | .lit (.string bytes) => bytes.length + 1
  | .lit _ => 1
  | .nil => 1
  | .ptr d => uptoBulk d + 1
  | .slice elems spare => uptoBulkAll elems + uptoBulkAll spare + 1
  | .agg parts => uptoBulkAll parts + 1
  | .iface _ d => uptoBulk d + 1
  | .map entries => uptoBulkEntries entries + 1
  | .held _ => 1
def uptoBulkAll {H : Type} : List (DataW H) → Nat
  | [] => 0
  | d :: r => uptoBulk d + uptoBulkAll r
def uptoBulkEntries {H : Type} : List (Lit × DataW H) → Nat
  | [] => 0
  | x :: r => uptoBulkEntry x + uptoBulkEntries r
def uptoBulkEntry {H : Type} : Lit × DataW H → Nat
  | (.string bytes, d) => bytes.length + uptoBulk d + 1
  | (_, d) => uptoBulk d + 1
 end
def uptoSmall : (H : Type) → List (DataW H) → Bool := fun _ ds => decide (uptoBulkAll ds ≤ 1048576)
def OpenSpec.upto (s : _root_.Go.ChangeSpec) : _root_.Go.OpenSpec := { _root_.Go.OpenSpec.ofChange s with cond := some uptoSmall }

/-- 'laws.FnExactIsFact', WHERE WHAT IT READS IS OF BULK AT MOST 1048576: true; the input reads as it did. -/
def fnExactIsFactUptoRow : OpenClaim := { program := "ytiiekgmdbadalaadoor", sum := "716166931a95f4186f08692b581146906097c88af3551c904508766534c01647", func := "loop.example/g01030/laws.FnExactIsFact", spec := "fnExactIsFact", inPlace := ["internal/bytealg.IndexByteString", "internal/bytealg.IndexString", "internal/bytealg.CountString"], named := ["unicode/utf8.first", "unicode/utf8.acceptRanges", "internal/bytealg.MaxLen"], apart := false, laid := [("unicode/utf8.acceptRanges", laid_unicode_utf8_acceptRanges), ("unicode/utf8.first", laid_unicode_utf8_first)], narrowed := true }
def FnExactIsFactUptoSaid : Prop := fnExactIsFactUptoRow.holds Tryd.pinned (OpenSpec.upto fnExactIsFactSpec)

/-- 'laws.FnExactIsClaim', WHERE WHAT IT READS IS OF BULK AT MOST 1048576: true; the input reads as it did. -/
def fnExactIsClaimUptoRow : OpenClaim := { program := "ytiiekgmdbadalaadoor", sum := "716166931a95f4186f08692b581146906097c88af3551c904508766534c01647", func := "loop.example/g01030/laws.FnExactIsClaim", spec := "fnExactIsClaim", inPlace := ["internal/bytealg.IndexByteString", "internal/bytealg.IndexString", "internal/bytealg.CountString"], named := ["unicode/utf8.first", "unicode/utf8.acceptRanges", "internal/bytealg.MaxLen"], apart := false, laid := [("unicode/utf8.acceptRanges", laid_unicode_utf8_acceptRanges), ("unicode/utf8.first", laid_unicode_utf8_first)], narrowed := true }
def FnExactIsClaimUptoSaid : Prop := fnExactIsClaimUptoRow.holds Tryd.pinned (OpenSpec.upto fnExactIsClaimSpec)

/-- 'laws.FnExactDoContradict', WHERE WHAT IT READS IS OF BULK AT MOST 1048576: true; the input reads as it did. -/
def fnExactDoContradictUptoRow : OpenClaim := { program := "ytiiekgmdbadalaadoor", sum := "716166931a95f4186f08692b581146906097c88af3551c904508766534c01647", func := "loop.example/g01030/laws.FnExactDoContradict", spec := "fnExactDoContradict", inPlace := ["internal/bytealg.IndexByteString", "internal/bytealg.IndexString", "internal/bytealg.CountString"], named := ["unicode/utf8.first", "unicode/utf8.acceptRanges", "internal/bytealg.MaxLen"], apart := false, laid := [("unicode/utf8.acceptRanges", laid_unicode_utf8_acceptRanges), ("unicode/utf8.first", laid_unicode_utf8_first)], narrowed := true }
def FnExactDoContradictUptoSaid : Prop := fnExactDoContradictUptoRow.holds Tryd.pinned (OpenSpec.upto fnExactDoContradictSpec)

/-- 'laws.FnExactAreClaims', WHERE WHAT IT READS IS OF BULK AT MOST 1048576: true; the input reads as it did. -/
def fnExactAreClaimsUptoRow : OpenClaim := { program := "ytiiekgmdbadalaadoor", sum := "716166931a95f4186f08692b581146906097c88af3551c904508766534c01647", func := "loop.example/g01030/laws.FnExactAreClaims", spec := "fnExactAreClaims", inPlace := ["internal/bytealg.IndexByteString", "internal/bytealg.IndexString", "internal/bytealg.CountString"], unfollowed := true, recurses := true, named := ["unicode/utf8.first", "unicode/utf8.acceptRanges", "internal/bytealg.MaxLen"], apart := false, laid := [("unicode/utf8.acceptRanges", laid_unicode_utf8_acceptRanges), ("unicode/utf8.first", laid_unicode_utf8_first)], narrowed := true }
def FnExactAreClaimsUptoSaid : Prop := fnExactAreClaimsUptoRow.holds Tryd.pinned (OpenSpec.upto fnExactAreClaimsSpec)

/-- 'laws.FnExactWeightOf', WHERE WHAT IT READS IS OF BULK AT MOST 1048576: true; the input reads as it did. -/
def fnExactWeightOfUptoRow : OpenClaim := { program := "ytiiekgmdbadalaadoor", sum := "716166931a95f4186f08692b581146906097c88af3551c904508766534c01647", func := "loop.example/g01030/laws.FnExactWeightOf", spec := "fnExactWeightOf", inPlace := ["internal/bytealg.IndexByteString", "internal/bytealg.IndexString", "internal/bytealg.CountString"], unfollowed := true, recurses := true, named := ["unicode/utf8.first", "unicode/utf8.acceptRanges", "internal/bytealg.MaxLen"], apart := false, laid := [("unicode/utf8.acceptRanges", laid_unicode_utf8_acceptRanges), ("unicode/utf8.first", laid_unicode_utf8_first)], narrowed := true }
def FnExactWeightOfUptoSaid : Prop := fnExactWeightOfUptoRow.holds Tryd.pinned (OpenSpec.upto fnExactWeightOfSpec)

/-- 'laws.FnExactClaimsAbout', WHERE WHAT IT READS IS OF BULK AT MOST 1048576: true; the input reads as it did. -/
def fnExactClaimsAboutUptoRow : OpenClaim := { program := "ytiiekgmdbadalaadoor", sum := "716166931a95f4186f08692b581146906097c88af3551c904508766534c01647", func := "loop.example/g01030/laws.FnExactClaimsAbout", spec := "fnExactClaimsAbout", inPlace := ["internal/bytealg.IndexByteString", "internal/bytealg.IndexString", "internal/bytealg.CountString"], unfollowed := true, recurses := true, named := ["unicode/utf8.first", "unicode/utf8.acceptRanges", "internal/bytealg.MaxLen"], apart := false, laid := [("unicode/utf8.acceptRanges", laid_unicode_utf8_acceptRanges), ("unicode/utf8.first", laid_unicode_utf8_first)], narrowed := true }
def FnExactClaimsAboutUptoSaid : Prop := fnExactClaimsAboutUptoRow.holds Tryd.pinned (OpenSpec.upto fnExactClaimsAboutSpec)

/-- 'laws.FnExactContradictionsOf', WHERE WHAT IT READS IS OF BULK AT MOST 1048576: true; the input reads as it did. -/
def fnExactContradictionsOfUptoRow : OpenClaim := { program := "ytiiekgmdbadalaadoor", sum := "716166931a95f4186f08692b581146906097c88af3551c904508766534c01647", func := "loop.example/g01030/laws.FnExactContradictionsOf", spec := "fnExactContradictionsOf", inPlace := ["internal/bytealg.IndexByteString", "internal/bytealg.IndexString", "internal/bytealg.CountString"], unfollowed := true, recurses := true, named := ["unicode/utf8.first", "unicode/utf8.acceptRanges", "internal/bytealg.MaxLen"], apart := false, laid := [("unicode/utf8.acceptRanges", laid_unicode_utf8_acceptRanges), ("unicode/utf8.first", laid_unicode_utf8_first)], narrowed := true }
def FnExactContradictionsOfUptoSaid : Prop := fnExactContradictionsOfUptoRow.holds Tryd.pinned (OpenSpec.upto fnExactContradictionsOfSpec)

/-- 'laws.FnExactPairsOf', WHERE WHAT IT READS IS OF BULK AT MOST 1048576: true; the input reads as it did. -/
def fnExactPairsOfUptoRow : OpenClaim := { program := "ytiiekgmdbadalaadoor", sum := "716166931a95f4186f08692b581146906097c88af3551c904508766534c01647", func := "loop.example/g01030/laws.FnExactPairsOf", spec := "fnExactPairsOf", inPlace := ["internal/bytealg.IndexByteString", "internal/bytealg.IndexString", "internal/bytealg.CountString"], unfollowed := true, recurses := true, named := ["unicode/utf8.first", "unicode/utf8.acceptRanges", "internal/bytealg.MaxLen"], apart := false, laid := [("unicode/utf8.acceptRanges", laid_unicode_utf8_acceptRanges), ("unicode/utf8.first", laid_unicode_utf8_first)], narrowed := true }
def FnExactPairsOfUptoSaid : Prop := fnExactPairsOfUptoRow.holds Tryd.pinned (OpenSpec.upto fnExactPairsOfSpec)

/-- 'laws.FnExactAreConsistent', WHERE WHAT IT READS IS OF BULK AT MOST 1048576: true; the input reads as it did. -/
def fnExactAreConsistentUptoRow : OpenClaim := { program := "ytiiekgmdbadalaadoor", sum := "716166931a95f4186f08692b581146906097c88af3551c904508766534c01647", func := "loop.example/g01030/laws.FnExactAreConsistent", spec := "fnExactAreConsistent", inPlace := ["internal/bytealg.IndexByteString", "internal/bytealg.IndexString", "internal/bytealg.CountString"], unfollowed := true, recurses := true, named := ["unicode/utf8.first", "unicode/utf8.acceptRanges", "internal/bytealg.MaxLen"], apart := false, laid := [("unicode/utf8.acceptRanges", laid_unicode_utf8_acceptRanges), ("unicode/utf8.first", laid_unicode_utf8_first)], narrowed := true }
def FnExactAreConsistentUptoSaid : Prop := fnExactAreConsistentUptoRow.holds Tryd.pinned (OpenSpec.upto fnExactAreConsistentSpec)

/-- 'laws.FnExactCircleIn', WHERE WHAT IT READS IS OF BULK AT MOST 1048576: true; the input reads as it did. -/
def fnExactCircleInUptoRow : OpenClaim := { program := "ytiiekgmdbadalaadoor", sum := "716166931a95f4186f08692b581146906097c88af3551c904508766534c01647", func := "loop.example/g01030/laws.FnExactCircleIn", spec := "fnExactCircleIn", inPlace := ["internal/bytealg.IndexByteString", "internal/bytealg.IndexString", "internal/bytealg.CountString"], unfollowed := true, recurses := true, named := ["unicode/utf8.first", "unicode/utf8.acceptRanges", "internal/bytealg.MaxLen"], apart := false, laid := [("unicode/utf8.acceptRanges", laid_unicode_utf8_acceptRanges), ("unicode/utf8.first", laid_unicode_utf8_first)], narrowed := true }
def FnExactCircleInUptoSaid : Prop := fnExactCircleInUptoRow.holds Tryd.pinned (OpenSpec.upto fnExactCircleInSpec)

/-- 'laws.FnExactFitsTo', WHERE WHAT IT READS IS OF BULK AT MOST 1048576: true; the input reads as it did. -/
def fnExactFitsToUptoRow : OpenClaim := { program := "ytiiekgmdbadalaadoor", sum := "716166931a95f4186f08692b581146906097c88af3551c904508766534c01647", func := "loop.example/g01030/laws.FnExactFitsTo", spec := "fnExactFitsTo", inPlace := ["internal/bytealg.IndexByteString", "internal/bytealg.IndexString", "internal/bytealg.CountString"], unfollowed := true, recurses := true, named := ["unicode/utf8.first", "unicode/utf8.acceptRanges", "internal/bytealg.MaxLen"], apart := false, laid := [("unicode/utf8.acceptRanges", laid_unicode_utf8_acceptRanges), ("unicode/utf8.first", laid_unicode_utf8_first)], narrowed := true }
def FnExactFitsToUptoSaid : Prop := fnExactFitsToUptoRow.holds Tryd.pinned (OpenSpec.upto fnExactFitsToSpec)

/-- 'laws.FnExactKeptClaims', WHERE WHAT IT READS IS OF BULK AT MOST 1048576: true; the input reads as it did. -/
def fnExactKeptClaimsUptoRow : OpenClaim := { program := "ytiiekgmdbadalaadoor", sum := "716166931a95f4186f08692b581146906097c88af3551c904508766534c01647", func := "loop.example/g01030/laws.FnExactKeptClaims", spec := "fnExactKeptClaims", inPlace := ["internal/bytealg.IndexByteString", "internal/bytealg.IndexString", "internal/bytealg.CountString"], unfollowed := true, recurses := true, named := ["unicode/utf8.first", "unicode/utf8.acceptRanges", "internal/bytealg.MaxLen"], apart := false, laid := [("unicode/utf8.acceptRanges", laid_unicode_utf8_acceptRanges), ("unicode/utf8.first", laid_unicode_utf8_first)], narrowed := true }
def FnExactKeptClaimsUptoSaid : Prop := fnExactKeptClaimsUptoRow.holds Tryd.pinned (OpenSpec.upto fnExactKeptClaimsSpec)

end Rows
end Go.Proofs.YtiiekgmdbadalaaDoor
