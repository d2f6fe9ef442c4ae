/-
  NARROWER THAN 'FOR EVERY INPUT', by the rows' own cells (each row's printed sentence says how): ForwardCompares: laid · ForwardMost: laid · SackMatchesReference: laid · SackChunks: loops, laid · SackCovers: laid · SackBuilds: laid · SackTells: laid · ForwardMatchesReference: laid · ForwardChunks: loops, laid · ForwardMerges: laid.
  DERIVED. THE GIVEN ROWS OF THIS SEAT. 10 by the template 'for every input the law returns true; each argument reads behind the call as it read before'; 0 by the template 'total and deterministic' (their statements: YtcjcgehhmjnlcaaGreatDoorTotals.lean).
  GIVEN WITH THE SEED: the statements are not yours to turn. If you find one false, say at which input.
  Laid BY PROGRAM, IN A SANDBOX (cutbox-rows.mjs): the forced cells as the released guide's own fill.sh prints them over the translation 10e7d59f4b173b16… (all of the seat's roots in one cut). By AI agents, Wed Nov 11 2026. No macro, syntax, notation, axiom, sorry.
-/
import Derived.Test.YtcjcgehhmjnlcaaGreatDoorChecked
import GoSem.Claim
import GoSem.ClaimJoined
import GoSem.ClaimMapViews
import Derived.JoinedTies
import Derived.KernelRfl
namespace Go.Proofs.YtcjcgehhmjnlcaaGreatDoor
/- THE CELL 'sum', in the pinned program and in every row, IS THE sha256 OF THE DUMP (.gsa) THAT YtcjcgehhmjnlcaaGreatDoorProg.lean LOADS. Nothing in Lean hashes anything: it is a label: what it is worth is what the hold of that sum in a sandbox is worth. -/
noncomputable def Tryz.pinned : Pinned := { name := "ytcjcgehhmjnlcaagreatdoor", sum := "10e7d59f4b173b1697c1b6a5e348248dc3b4aa37a3121d922d1744e20d28cfb8", checked := Tryz.checked }
namespace Rows
def none {H : Type} : Left H := { results := [], args := [] }

/- WHAT THE LISTED PACKAGE-LEVEL VARIABLES READ AS WHEN THE CALL BEGINS. Each datum BY PROGRAM (the guide's laid-datum.mjs) off the statement by which the dump's own 'gosem.cut.vars' lays the variable. In a bare row this is a premise. The card (YtcjcgehhmjnlcaaGreatDoorCards.lean) ties it to the program's text. -/
def laid_errors_errorType {H : Type} : DataW H := .iface "internal/reflectlite.rtype" (.agg [.ptr (.lit (.string [101, 114, 114, 111, 114]))])
def laid_wharf_kind_table {H : Type} : DataW H := .agg [.agg [.lit (.int .u8 0), .lit (.string [100, 97, 116, 97]), .lit (.int .u8 15), .lit (.int .i64 13), .lit (.int .i64 65531), .lit (.int .i64 1), .lit (.int .i64 0)], .agg [.lit (.int .u8 1), .lit (.string [105, 110, 105, 116]), .lit (.int .u8 0), .lit (.int .i64 16), .lit (.int .i64 16), .lit (.int .i64 1), .lit (.int .i64 2)], .agg [.lit (.int .u8 2), .lit (.string [105, 110, 105, 116, 45, 97, 99, 107]), .lit (.int .u8 0), .lit (.int .i64 16), .lit (.int .i64 16), .lit (.int .i64 1), .lit (.int .i64 2)], .agg [.lit (.int .u8 3), .lit (.string [115, 97, 99, 107]), .lit (.int .u8 0), .lit (.int .i64 12), .lit (.int .i64 65531), .lit (.int .i64 4), .lit (.int .i64 0)], .agg [.lit (.int .u8 4), .lit (.string [104, 101, 97, 114, 116, 98, 101, 97, 116]), .lit (.int .u8 0), .lit (.int .i64 0), .lit (.int .i64 0), .lit (.int .i64 1), .lit (.int .i64 1)], .agg [.lit (.int .u8 5), .lit (.string [104, 101, 97, 114, 116, 98, 101, 97, 116, 45, 97, 99, 107]), .lit (.int .u8 0), .lit (.int .i64 0), .lit (.int .i64 0), .lit (.int .i64 1), .lit (.int .i64 1)], .agg [.lit (.int .u8 6), .lit (.string [97, 98, 111, 114, 116]), .lit (.int .u8 1), .lit (.int .i64 0), .lit (.int .i64 0), .lit (.int .i64 1), .lit (.int .i64 3)], .agg [.lit (.int .u8 7), .lit (.string [115, 104, 117, 116, 100, 111, 119, 110]), .lit (.int .u8 0), .lit (.int .i64 4), .lit (.int .i64 4), .lit (.int .i64 1), .lit (.int .i64 0)], .agg [.lit (.int .u8 8), .lit (.string [115, 104, 117, 116, 100, 111, 119, 110, 45, 97, 99, 107]), .lit (.int .u8 0), .lit (.int .i64 0), .lit (.int .i64 0), .lit (.int .i64 1), .lit (.int .i64 0)], .agg [.lit (.int .u8 9), .lit (.string [101, 114, 114, 111, 114]), .lit (.int .u8 0), .lit (.int .i64 0), .lit (.int .i64 0), .lit (.int .i64 1), .lit (.int .i64 4)], .agg [.lit (.int .u8 10), .lit (.string [99, 111, 111, 107, 105, 101, 45, 101, 99, 104, 111]), .lit (.int .u8 0), .lit (.int .i64 1), .lit (.int .i64 65531), .lit (.int .i64 1), .lit (.int .i64 0)], .agg [.lit (.int .u8 11), .lit (.string [99, 111, 111, 107, 105, 101, 45, 97, 99, 107]), .lit (.int .u8 0), .lit (.int .i64 0), .lit (.int .i64 0), .lit (.int .i64 1), .lit (.int .i64 0)], .agg [.lit (.int .u8 12), .lit (.string [101, 99, 110, 101]), .lit (.int .u8 0), .lit (.int .i64 4), .lit (.int .i64 4), .lit (.int .i64 1), .lit (.int .i64 0)], .agg [.lit (.int .u8 13), .lit (.string [99, 119, 114]), .lit (.int .u8 0), .lit (.int .i64 4), .lit (.int .i64 4), .lit (.int .i64 1), .lit (.int .i64 0)], .agg [.lit (.int .u8 14), .lit (.string [115, 104, 117, 116, 100, 111, 119, 110, 45, 99, 111, 109, 112, 108, 101, 116, 101]), .lit (.int .u8 1), .lit (.int .i64 0), .lit (.int .i64 0), .lit (.int .i64 1), .lit (.int .i64 0)], .agg [.lit (.int .u8 15), .lit (.string [97, 117, 116, 104]), .lit (.int .u8 0), .lit (.int .i64 5), .lit (.int .i64 65531), .lit (.int .i64 1), .lit (.int .i64 0)], .agg [.lit (.int .u8 64), .lit (.string [105, 45, 100, 97, 116, 97]), .lit (.int .u8 15), .lit (.int .i64 17), .lit (.int .i64 65531), .lit (.int .i64 1), .lit (.int .i64 0)], .agg [.lit (.int .u8 128), .lit (.string [97, 115, 99, 111, 110, 102, 45, 97, 99, 107]), .lit (.int .u8 0), .lit (.int .i64 4), .lit (.int .i64 4), .lit (.int .i64 1), .lit (.int .i64 2)], .agg [.lit (.int .u8 130), .lit (.string [114, 101, 45, 99, 111, 110, 102, 105, 103]), .lit (.int .u8 0), .lit (.int .i64 0), .lit (.int .i64 0), .lit (.int .i64 1), .lit (.int .i64 5)], .agg [.lit (.int .u8 132), .lit (.string [112, 97, 100]), .lit (.int .u8 0), .lit (.int .i64 0), .lit (.int .i64 65531), .lit (.int .i64 1), .lit (.int .i64 0)], .agg [.lit (.int .u8 192), .lit (.string [102, 111, 114, 119, 97, 114, 100, 45, 116, 115, 110]), .lit (.int .u8 0), .lit (.int .i64 4), .lit (.int .i64 65531), .lit (.int .i64 4), .lit (.int .i64 0)], .agg [.lit (.int .u8 193), .lit (.string [97, 115, 99, 111, 110, 102]), .lit (.int .u8 0), .lit (.int .i64 4), .lit (.int .i64 4), .lit (.int .i64 1), .lit (.int .i64 6)], .agg [.lit (.int .u8 194), .lit (.string [105, 45, 102, 111, 114, 119, 97, 114, 100, 45, 116, 115, 110]), .lit (.int .u8 0), .lit (.int .i64 4), .lit (.int .i64 65531), .lit (.int .i64 8), .lit (.int .i64 0)]]
def laid_wharf_kind_inside {H : Type} : DataW H := .agg [.agg [.lit (.int .i64 0), .lit (.int .i64 0), .lit (.int .i64 0)], .agg [.lit (.int .i64 1), .lit (.int .i64 1), .lit (.int .i64 1)], .agg [.lit (.int .i64 1), .lit (.int .i64 0), .lit (.int .i64 16384)], .agg [.lit (.int .i64 2), .lit (.int .i64 0), .lit (.int .i64 16384)], .agg [.lit (.int .i64 2), .lit (.int .i64 1), .lit (.int .i64 16384)], .agg [.lit (.int .i64 1), .lit (.int .i64 1), .lit (.int .i64 2)], .agg [.lit (.int .i64 1), .lit (.int .i64 2), .lit (.int .i64 16384)]]

/-- 'wharflaw16.ForwardCompares': WHATEVER THE INPUT: true; the input reads as it did. -/
def forwardComparesSpec : ChangeSpec := { name := "forwardCompares", fn := fun _ => fun
  | [d1, d2, d3] => { results := [.lit (.bool true)], args := [d1, d2, d3] }
  | _ => none }
def forwardComparesRow : OpenClaim := { program := "ytcjcgehhmjnlcaagreatdoor", sum := "10e7d59f4b173b1697c1b6a5e348248dc3b4aa37a3121d922d1744e20d28cfb8", func := "wharf/wharflaw16.ForwardCompares", spec := "forwardCompares", inPlace := ["internal/reflectlite.ValueOf", "(internal/reflectlite.Value).Type", "(internal/reflectlite.Value).IsNil", "internal/reflectlite.TypeOf", "(internal/reflectlite.Value).Elem", "(internal/reflectlite.Value).Set"], unfollowed := true, recurses := true, named := ["wharf/kind.table", "wharf/kind.inside", "errors.errorType"], plainKeys := false, apart := false, laid := [("errors.errorType", laid_errors_errorType), ("wharf/kind.table", laid_wharf_kind_table), ("wharf/kind.inside", laid_wharf_kind_inside)] }
def ForwardComparesSaid : Prop := forwardComparesRow.holds Tryz.pinned (OpenSpec.ofChange forwardComparesSpec)

/-- ITS FALSE NEIGHBOUR: 'it returns false'. Refute it at one input. -/
def forwardComparesWrong : ChangeSpec := { name := "forwardCompares", fn := fun _ => fun
  | [d1, d2, d3] => { results := [.lit (.bool false)], args := [d1, d2, d3] }
  | _ => none }
def ForwardComparesWrongFalsely : Prop := forwardComparesRow.holds Tryz.pinned (OpenSpec.ofChange forwardComparesWrong)

/-- 'wharflaw16.ForwardMost': WHATEVER THE INPUT: true; the input reads as it did. -/
def forwardMostSpec : ChangeSpec := { name := "forwardMost", fn := fun _ => fun
  | [d1, d2] => { results := [.lit (.bool true)], args := [d1, d2] }
  | _ => none }
def forwardMostRow : OpenClaim := { program := "ytcjcgehhmjnlcaagreatdoor", sum := "10e7d59f4b173b1697c1b6a5e348248dc3b4aa37a3121d922d1744e20d28cfb8", func := "wharf/wharflaw16.ForwardMost", spec := "forwardMost", inPlace := ["internal/reflectlite.ValueOf", "(internal/reflectlite.Value).Type", "(internal/reflectlite.Value).IsNil", "internal/reflectlite.TypeOf", "(internal/reflectlite.Value).Elem", "(internal/reflectlite.Value).Set"], unfollowed := true, recurses := true, named := ["wharf/kind.table", "wharf/kind.inside", "errors.errorType"], plainKeys := false, apart := false, laid := [("errors.errorType", laid_errors_errorType), ("wharf/kind.table", laid_wharf_kind_table), ("wharf/kind.inside", laid_wharf_kind_inside)] }
def ForwardMostSaid : Prop := forwardMostRow.holds Tryz.pinned (OpenSpec.ofChange forwardMostSpec)

/-- ITS FALSE NEIGHBOUR: 'it returns false'. Refute it at one input. -/
def forwardMostWrong : ChangeSpec := { name := "forwardMost", fn := fun _ => fun
  | [d1, d2] => { results := [.lit (.bool false)], args := [d1, d2] }
  | _ => none }
def ForwardMostWrongFalsely : Prop := forwardMostRow.holds Tryz.pinned (OpenSpec.ofChange forwardMostWrong)

/-- 'wharflaw14.SackMatchesReference': WHATEVER THE INPUT: true; the input reads as it did. -/
def sackMatchesReferenceSpec : ChangeSpec := { name := "sackMatchesReference", fn := fun _ => fun
  | [d1, d2] => { results := [.lit (.bool true)], args := [d1, d2] }
  | _ => none }
def sackMatchesReferenceRow : OpenClaim := { program := "ytcjcgehhmjnlcaagreatdoor", sum := "10e7d59f4b173b1697c1b6a5e348248dc3b4aa37a3121d922d1744e20d28cfb8", func := "wharf/wharflaw14.SackMatchesReference", spec := "sackMatchesReference", inPlace := ["internal/reflectlite.ValueOf", "(internal/reflectlite.Value).Type", "(internal/reflectlite.Value).IsNil", "internal/reflectlite.TypeOf", "(internal/reflectlite.Value).Elem", "(internal/reflectlite.Value).Set"], unfollowed := true, recurses := true, named := ["wharf/kind.table", "wharf/kind.inside", "errors.errorType"], plainKeys := false, apart := false, laid := [("errors.errorType", laid_errors_errorType), ("wharf/kind.table", laid_wharf_kind_table), ("wharf/kind.inside", laid_wharf_kind_inside)] }
def SackMatchesReferenceSaid : Prop := sackMatchesReferenceRow.holds Tryz.pinned (OpenSpec.ofChange sackMatchesReferenceSpec)

/-- ITS FALSE NEIGHBOUR: 'it returns false'. Refute it at one input. -/
def sackMatchesReferenceWrong : ChangeSpec := { name := "sackMatchesReference", fn := fun _ => fun
  | [d1, d2] => { results := [.lit (.bool false)], args := [d1, d2] }
  | _ => none }
def SackMatchesReferenceWrongFalsely : Prop := sackMatchesReferenceRow.holds Tryz.pinned (OpenSpec.ofChange sackMatchesReferenceWrong)

/-- 'wharflaw14.SackChunks': WHATEVER THE INPUT: true; the input reads as it did. -/
def sackChunksSpec : ChangeSpec := { name := "sackChunks", fn := fun _ => fun
  | [d] => { results := [.lit (.bool true)], args := [d] }
  | _ => none }
def sackChunksRow : OpenClaim := { program := "ytcjcgehhmjnlcaagreatdoor", sum := "10e7d59f4b173b1697c1b6a5e348248dc3b4aa37a3121d922d1744e20d28cfb8", func := "wharf/wharflaw14.SackChunks", spec := "sackChunks", inPlace := ["internal/reflectlite.ValueOf", "(internal/reflectlite.Value).Type", "(internal/reflectlite.Value).IsNil", "internal/reflectlite.TypeOf", "(internal/reflectlite.Value).Elem", "(internal/reflectlite.Value).Set"], unfollowed := true, recurses := true, named := ["wharf/kind.table", "wharf/kind.inside", "errors.errorType"], loops := true, plainKeys := false, apart := false, laid := [("errors.errorType", laid_errors_errorType), ("wharf/kind.table", laid_wharf_kind_table), ("wharf/kind.inside", laid_wharf_kind_inside)] }
def SackChunksSaid : Prop := sackChunksRow.holds Tryz.pinned (OpenSpec.ofChange sackChunksSpec)

/-- ITS FALSE NEIGHBOUR: 'it returns false'. Refute it at one input. -/
def sackChunksWrong : ChangeSpec := { name := "sackChunks", fn := fun _ => fun
  | [d] => { results := [.lit (.bool false)], args := [d] }
  | _ => none }
def SackChunksWrongFalsely : Prop := sackChunksRow.holds Tryz.pinned (OpenSpec.ofChange sackChunksWrong)

/-- 'wharflaw14.SackCovers': WHATEVER THE INPUT: true; the input reads as it did. -/
def sackCoversSpec : ChangeSpec := { name := "sackCovers", fn := fun _ => fun
  | [d1, d2] => { results := [.lit (.bool true)], args := [d1, d2] }
  | _ => none }
def sackCoversRow : OpenClaim := { program := "ytcjcgehhmjnlcaagreatdoor", sum := "10e7d59f4b173b1697c1b6a5e348248dc3b4aa37a3121d922d1744e20d28cfb8", func := "wharf/wharflaw14.SackCovers", spec := "sackCovers", inPlace := ["internal/reflectlite.ValueOf", "(internal/reflectlite.Value).Type", "(internal/reflectlite.Value).IsNil", "internal/reflectlite.TypeOf", "(internal/reflectlite.Value).Elem", "(internal/reflectlite.Value).Set"], unfollowed := true, recurses := true, named := ["wharf/kind.table", "wharf/kind.inside", "errors.errorType"], plainKeys := false, apart := false, laid := [("errors.errorType", laid_errors_errorType), ("wharf/kind.table", laid_wharf_kind_table), ("wharf/kind.inside", laid_wharf_kind_inside)] }
def SackCoversSaid : Prop := sackCoversRow.holds Tryz.pinned (OpenSpec.ofChange sackCoversSpec)

/-- ITS FALSE NEIGHBOUR: 'it returns false'. Refute it at one input. -/
def sackCoversWrong : ChangeSpec := { name := "sackCovers", fn := fun _ => fun
  | [d1, d2] => { results := [.lit (.bool false)], args := [d1, d2] }
  | _ => none }
def SackCoversWrongFalsely : Prop := sackCoversRow.holds Tryz.pinned (OpenSpec.ofChange sackCoversWrong)

/-- 'wharflaw14.SackBuilds': WHATEVER THE INPUT: true; the input reads as it did. -/
def sackBuildsSpec : ChangeSpec := { name := "sackBuilds", fn := fun _ => fun
  | [d1, d2, d3] => { results := [.lit (.bool true)], args := [d1, d2, d3] }
  | _ => none }
def sackBuildsRow : OpenClaim := { program := "ytcjcgehhmjnlcaagreatdoor", sum := "10e7d59f4b173b1697c1b6a5e348248dc3b4aa37a3121d922d1744e20d28cfb8", func := "wharf/wharflaw14.SackBuilds", spec := "sackBuilds", inPlace := ["internal/reflectlite.ValueOf", "(internal/reflectlite.Value).Type", "(internal/reflectlite.Value).IsNil", "internal/reflectlite.TypeOf", "(internal/reflectlite.Value).Elem", "(internal/reflectlite.Value).Set"], unfollowed := true, recurses := true, named := ["wharf/kind.table", "wharf/kind.inside", "errors.errorType"], plainKeys := false, apart := false, laid := [("errors.errorType", laid_errors_errorType), ("wharf/kind.table", laid_wharf_kind_table), ("wharf/kind.inside", laid_wharf_kind_inside)] }
def SackBuildsSaid : Prop := sackBuildsRow.holds Tryz.pinned (OpenSpec.ofChange sackBuildsSpec)

/-- ITS FALSE NEIGHBOUR: 'it returns false'. Refute it at one input. -/
def sackBuildsWrong : ChangeSpec := { name := "sackBuilds", fn := fun _ => fun
  | [d1, d2, d3] => { results := [.lit (.bool false)], args := [d1, d2, d3] }
  | _ => none }
def SackBuildsWrongFalsely : Prop := sackBuildsRow.holds Tryz.pinned (OpenSpec.ofChange sackBuildsWrong)

/-- 'wharflaw14.SackTells': WHATEVER THE INPUT: true; the input reads as it did. -/
def sackTellsSpec : ChangeSpec := { name := "sackTells", fn := fun _ => fun
  | [d1, d2, d3] => { results := [.lit (.bool true)], args := [d1, d2, d3] }
  | _ => none }
def sackTellsRow : OpenClaim := { program := "ytcjcgehhmjnlcaagreatdoor", sum := "10e7d59f4b173b1697c1b6a5e348248dc3b4aa37a3121d922d1744e20d28cfb8", func := "wharf/wharflaw14.SackTells", spec := "sackTells", inPlace := ["internal/reflectlite.ValueOf", "(internal/reflectlite.Value).Type", "(internal/reflectlite.Value).IsNil", "internal/reflectlite.TypeOf", "(internal/reflectlite.Value).Elem", "(internal/reflectlite.Value).Set"], unfollowed := true, recurses := true, named := ["wharf/kind.table", "wharf/kind.inside", "errors.errorType"], plainKeys := false, apart := false, laid := [("errors.errorType", laid_errors_errorType), ("wharf/kind.table", laid_wharf_kind_table), ("wharf/kind.inside", laid_wharf_kind_inside)] }
def SackTellsSaid : Prop := sackTellsRow.holds Tryz.pinned (OpenSpec.ofChange sackTellsSpec)

/-- ITS FALSE NEIGHBOUR: 'it returns false'. Refute it at one input. -/
def sackTellsWrong : ChangeSpec := { name := "sackTells", fn := fun _ => fun
  | [d1, d2, d3] => { results := [.lit (.bool false)], args := [d1, d2, d3] }
  | _ => none }
def SackTellsWrongFalsely : Prop := sackTellsRow.holds Tryz.pinned (OpenSpec.ofChange sackTellsWrong)

/-- 'wharflaw16.ForwardMatchesReference': WHATEVER THE INPUT: true; the input reads as it did. -/
def forwardMatchesReferenceSpec : ChangeSpec := { name := "forwardMatchesReference", fn := fun _ => fun
  | [d1, d2, d3] => { results := [.lit (.bool true)], args := [d1, d2, d3] }
  | _ => none }
def forwardMatchesReferenceRow : OpenClaim := { program := "ytcjcgehhmjnlcaagreatdoor", sum := "10e7d59f4b173b1697c1b6a5e348248dc3b4aa37a3121d922d1744e20d28cfb8", func := "wharf/wharflaw16.ForwardMatchesReference", spec := "forwardMatchesReference", inPlace := ["internal/reflectlite.ValueOf", "(internal/reflectlite.Value).Type", "(internal/reflectlite.Value).IsNil", "internal/reflectlite.TypeOf", "(internal/reflectlite.Value).Elem", "(internal/reflectlite.Value).Set"], unfollowed := true, recurses := true, named := ["wharf/kind.table", "wharf/kind.inside", "errors.errorType"], plainKeys := false, apart := false, laid := [("errors.errorType", laid_errors_errorType), ("wharf/kind.table", laid_wharf_kind_table), ("wharf/kind.inside", laid_wharf_kind_inside)] }
def ForwardMatchesReferenceSaid : Prop := forwardMatchesReferenceRow.holds Tryz.pinned (OpenSpec.ofChange forwardMatchesReferenceSpec)

/-- ITS FALSE NEIGHBOUR: 'it returns false'. Refute it at one input. -/
def forwardMatchesReferenceWrong : ChangeSpec := { name := "forwardMatchesReference", fn := fun _ => fun
  | [d1, d2, d3] => { results := [.lit (.bool false)], args := [d1, d2, d3] }
  | _ => none }
def ForwardMatchesReferenceWrongFalsely : Prop := forwardMatchesReferenceRow.holds Tryz.pinned (OpenSpec.ofChange forwardMatchesReferenceWrong)

/-- 'wharflaw16.ForwardChunks': WHATEVER THE INPUT: true; the input reads as it did. -/
def forwardChunksSpec : ChangeSpec := { name := "forwardChunks", fn := fun _ => fun
  | [d] => { results := [.lit (.bool true)], args := [d] }
  | _ => none }
def forwardChunksRow : OpenClaim := { program := "ytcjcgehhmjnlcaagreatdoor", sum := "10e7d59f4b173b1697c1b6a5e348248dc3b4aa37a3121d922d1744e20d28cfb8", func := "wharf/wharflaw16.ForwardChunks", spec := "forwardChunks", inPlace := ["internal/reflectlite.ValueOf", "(internal/reflectlite.Value).Type", "(internal/reflectlite.Value).IsNil", "internal/reflectlite.TypeOf", "(internal/reflectlite.Value).Elem", "(internal/reflectlite.Value).Set"], unfollowed := true, recurses := true, named := ["wharf/kind.table", "wharf/kind.inside", "errors.errorType"], loops := true, plainKeys := false, apart := false, laid := [("errors.errorType", laid_errors_errorType), ("wharf/kind.table", laid_wharf_kind_table), ("wharf/kind.inside", laid_wharf_kind_inside)] }
def ForwardChunksSaid : Prop := forwardChunksRow.holds Tryz.pinned (OpenSpec.ofChange forwardChunksSpec)

/-- ITS FALSE NEIGHBOUR: 'it returns false'. Refute it at one input. -/
def forwardChunksWrong : ChangeSpec := { name := "forwardChunks", fn := fun _ => fun
  | [d] => { results := [.lit (.bool false)], args := [d] }
  | _ => none }
def ForwardChunksWrongFalsely : Prop := forwardChunksRow.holds Tryz.pinned (OpenSpec.ofChange forwardChunksWrong)

/-- 'wharflaw16.ForwardMerges': WHATEVER THE INPUT: true; the input reads as it did. -/
def forwardMergesSpec : ChangeSpec := { name := "forwardMerges", fn := fun _ => fun
  | [d] => { results := [.lit (.bool true)], args := [d] }
  | _ => none }
def forwardMergesRow : OpenClaim := { program := "ytcjcgehhmjnlcaagreatdoor", sum := "10e7d59f4b173b1697c1b6a5e348248dc3b4aa37a3121d922d1744e20d28cfb8", func := "wharf/wharflaw16.ForwardMerges", spec := "forwardMerges", inPlace := ["internal/reflectlite.ValueOf", "(internal/reflectlite.Value).Type", "(internal/reflectlite.Value).IsNil", "internal/reflectlite.TypeOf", "(internal/reflectlite.Value).Elem", "(internal/reflectlite.Value).Set"], unfollowed := true, recurses := true, named := ["wharf/kind.table", "wharf/kind.inside", "errors.errorType"], plainKeys := false, apart := false, laid := [("errors.errorType", laid_errors_errorType), ("wharf/kind.table", laid_wharf_kind_table), ("wharf/kind.inside", laid_wharf_kind_inside)] }
def ForwardMergesSaid : Prop := forwardMergesRow.holds Tryz.pinned (OpenSpec.ofChange forwardMergesSpec)

/-- ITS FALSE NEIGHBOUR: 'it returns false'. Refute it at one input. -/
def forwardMergesWrong : ChangeSpec := { name := "forwardMerges", fn := fun _ => fun
  | [d] => { results := [.lit (.bool false)], args := [d] }
  | _ => none }
def ForwardMergesWrongFalsely : Prop := forwardMergesRow.holds Tryz.pinned (OpenSpec.ofChange forwardMergesWrong)

/- THE SECOND FORM. 'bulk': how many values and letters a reading holds, each counted each time it is reached (what is shared counts as often as it is met; a slice's spare places count too). A statement '..UptoSaid' is the law's where the arguments, and the package variables that the reading takes, are together of bulk at most 1048576: NARROWER than '..Said'. Prove '..Said' where nothing that the law and all that it calls make is longer than what came in: it says more and counts as full. Else prove '..UptoSaid'. A law counts once. -/
mutual
def uptoBulk {H : Type} : DataW H → Nat
  | .lit (.string bytes) => bytes.length + 1
  | .lit _ => 1
  | .nil => 1
  | .ptr d => uptoBulk d + 1
  | .slice elems spare => uptoBulkAll elems + uptoBulkAll spare + 1
  | .agg parts => uptoBulkAll parts + 1
  | .iface _ d => uptoBulk d + 1
  | .map entries => uptoBulkEntries entries + 1
  | .held _ => 1
def uptoBulkAll {H : Type} : List (DataW H) → Nat
  | [] => 0
  | d :: r => uptoBulk d + uptoBulkAll r
def uptoBulkEntries {H : Type} : List (Lit × DataW H) → Nat
  | [] => 0
  | x :: r => uptoBulkEntry x + uptoBulkEntries r
def uptoBulkEntry {H : Type} : Lit × DataW H → Nat
  | (.string bytes, d) => bytes.length + uptoBulk d + 1
  | (_, d) => uptoBulk d + 1
 end
def uptoSmall : (H : Type) → List (DataW H) → Bool := fun _ ds => decide (uptoBulkAll ds ≤ 1048576)
def OpenSpec.upto (s : _root_.Go.ChangeSpec) : _root_.Go.OpenSpec := { _root_.Go.OpenSpec.ofChange s with cond := some uptoSmall }

/-- 'wharflaw16.ForwardCompares', WHERE WHAT IT READS IS OF BULK AT MOST 1048576: true; the input reads as it did. -/
def forwardComparesUptoRow : OpenClaim := { program := "ytcjcgehhmjnlcaagreatdoor", sum := "10e7d59f4b173b1697c1b6a5e348248dc3b4aa37a3121d922d1744e20d28cfb8", func := "wharf/wharflaw16.ForwardCompares", spec := "forwardCompares", inPlace := ["internal/reflectlite.ValueOf", "(internal/reflectlite.Value).Type", "(internal/reflectlite.Value).IsNil", "internal/reflectlite.TypeOf", "(internal/reflectlite.Value).Elem", "(internal/reflectlite.Value).Set"], unfollowed := true, recurses := true, named := ["wharf/kind.table", "wharf/kind.inside", "errors.errorType"], plainKeys := false, apart := false, laid := [("errors.errorType", laid_errors_errorType), ("wharf/kind.table", laid_wharf_kind_table), ("wharf/kind.inside", laid_wharf_kind_inside)], narrowed := true }
def ForwardComparesUptoSaid : Prop := forwardComparesUptoRow.holds Tryz.pinned (OpenSpec.upto forwardComparesSpec)

/-- 'wharflaw16.ForwardMost', WHERE WHAT IT READS IS OF BULK AT MOST 1048576: true; the input reads as it did. -/
def forwardMostUptoRow : OpenClaim := { program := "ytcjcgehhmjnlcaagreatdoor", sum := "10e7d59f4b173b1697c1b6a5e348248dc3b4aa37a3121d922d1744e20d28cfb8", func := "wharf/wharflaw16.ForwardMost", spec := "forwardMost", inPlace := ["internal/reflectlite.ValueOf", "(internal/reflectlite.Value).Type", "(internal/reflectlite.Value).IsNil", "internal/reflectlite.TypeOf", "(internal/reflectlite.Value).Elem", "(internal/reflectlite.Value).Set"], unfollowed := true, recurses := true, named := ["wharf/kind.table", "wharf/kind.inside", "errors.errorType"], plainKeys := false, apart := false, laid := [("errors.errorType", laid_errors_errorType), ("wharf/kind.table", laid_wharf_kind_table), ("wharf/kind.inside", laid_wharf_kind_inside)], narrowed := true }
def ForwardMostUptoSaid : Prop := forwardMostUptoRow.holds Tryz.pinned (OpenSpec.upto forwardMostSpec)

/-- 'wharflaw14.SackMatchesReference', WHERE WHAT IT READS IS OF BULK AT MOST 1048576: true; the input reads as it did. -/
def sackMatchesReferenceUptoRow : OpenClaim := { program := "ytcjcgehhmjnlcaagreatdoor", sum := "10e7d59f4b173b1697c1b6a5e348248dc3b4aa37a3121d922d1744e20d28cfb8", func := "wharf/wharflaw14.SackMatchesReference", spec := "sackMatchesReference", inPlace := ["internal/reflectlite.ValueOf", "(internal/reflectlite.Value).Type", "(internal/reflectlite.Value).IsNil", "internal/reflectlite.TypeOf", "(internal/reflectlite.Value).Elem", "(internal/reflectlite.Value).Set"], unfollowed := true, recurses := true, named := ["wharf/kind.table", "wharf/kind.inside", "errors.errorType"], plainKeys := false, apart := false, laid := [("errors.errorType", laid_errors_errorType), ("wharf/kind.table", laid_wharf_kind_table), ("wharf/kind.inside", laid_wharf_kind_inside)], narrowed := true }
def SackMatchesReferenceUptoSaid : Prop := sackMatchesReferenceUptoRow.holds Tryz.pinned (OpenSpec.upto sackMatchesReferenceSpec)

/-- 'wharflaw14.SackChunks', WHERE WHAT IT READS IS OF BULK AT MOST 1048576: true; the input reads as it did. -/
def sackChunksUptoRow : OpenClaim := { program := "ytcjcgehhmjnlcaagreatdoor", sum := "10e7d59f4b173b1697c1b6a5e348248dc3b4aa37a3121d922d1744e20d28cfb8", func := "wharf/wharflaw14.SackChunks", spec := "sackChunks", inPlace := ["internal/reflectlite.ValueOf", "(internal/reflectlite.Value).Type", "(internal/reflectlite.Value).IsNil", "internal/reflectlite.TypeOf", "(internal/reflectlite.Value).Elem", "(internal/reflectlite.Value).Set"], unfollowed := true, recurses := true, named := ["wharf/kind.table", "wharf/kind.inside", "errors.errorType"], loops := true, plainKeys := false, apart := false, laid := [("errors.errorType", laid_errors_errorType), ("wharf/kind.table", laid_wharf_kind_table), ("wharf/kind.inside", laid_wharf_kind_inside)], narrowed := true }
def SackChunksUptoSaid : Prop := sackChunksUptoRow.holds Tryz.pinned (OpenSpec.upto sackChunksSpec)

/-- 'wharflaw14.SackCovers', WHERE WHAT IT READS IS OF BULK AT MOST 1048576: true; the input reads as it did. -/
def sackCoversUptoRow : OpenClaim := { program := "ytcjcgehhmjnlcaagreatdoor", sum := "10e7d59f4b173b1697c1b6a5e348248dc3b4aa37a3121d922d1744e20d28cfb8", func := "wharf/wharflaw14.SackCovers", spec := "sackCovers", inPlace := ["internal/reflectlite.ValueOf", "(internal/reflectlite.Value).Type", "(internal/reflectlite.Value).IsNil", "internal/reflectlite.TypeOf", "(internal/reflectlite.Value).Elem", "(internal/reflectlite.Value).Set"], unfollowed := true, recurses := true, named := ["wharf/kind.table", "wharf/kind.inside", "errors.errorType"], plainKeys := false, apart := false, laid := [("errors.errorType", laid_errors_errorType), ("wharf/kind.table", laid_wharf_kind_table), ("wharf/kind.inside", laid_wharf_kind_inside)], narrowed := true }
def SackCoversUptoSaid : Prop := sackCoversUptoRow.holds Tryz.pinned (OpenSpec.upto sackCoversSpec)

/-- 'wharflaw14.SackBuilds', WHERE WHAT IT READS IS OF BULK AT MOST 1048576: true; the input reads as it did. -/
def sackBuildsUptoRow : OpenClaim := { program := "ytcjcgehhmjnlcaagreatdoor", sum := "10e7d59f4b173b1697c1b6a5e348248dc3b4aa37a3121d922d1744e20d28cfb8", func := "wharf/wharflaw14.SackBuilds", spec := "sackBuilds", inPlace := ["internal/reflectlite.ValueOf", "(internal/reflectlite.Value).Type", "(internal/reflectlite.Value).IsNil", "internal/reflectlite.TypeOf", "(internal/reflectlite.Value).Elem", "(internal/reflectlite.Value).Set"], unfollowed := true, recurses := true, named := ["wharf/kind.table", "wharf/kind.inside", "errors.errorType"], plainKeys := false, apart := false, laid := [("errors.errorType", laid_errors_errorType), ("wharf/kind.table", laid_wharf_kind_table), ("wharf/kind.inside", laid_wharf_kind_inside)], narrowed := true }
def SackBuildsUptoSaid : Prop := sackBuildsUptoRow.holds Tryz.pinned (OpenSpec.upto sackBuildsSpec)

/-- 'wharflaw14.SackTells', WHERE WHAT IT READS IS OF BULK AT MOST 1048576: true; the input reads as it did. -/
def sackTellsUptoRow : OpenClaim := { program := "ytcjcgehhmjnlcaagreatdoor", sum := "10e7d59f4b173b1697c1b6a5e348248dc3b4aa37a3121d922d1744e20d28cfb8", func := "wharf/wharflaw14.SackTells", spec := "sackTells", inPlace := ["internal/reflectlite.ValueOf", "(internal/reflectlite.Value).Type", "(internal/reflectlite.Value).IsNil", "internal/reflectlite.TypeOf", "(internal/reflectlite.Value).Elem", "(internal/reflectlite.Value).Set"], unfollowed := true, recurses := true, named := ["wharf/kind.table", "wharf/kind.inside", "errors.errorType"], plainKeys := false, apart := false, laid := [("errors.errorType", laid_errors_errorType), ("wharf/kind.table", laid_wharf_kind_table), ("wharf/kind.inside", laid_wharf_kind_inside)], narrowed := true }
def SackTellsUptoSaid : Prop := sackTellsUptoRow.holds Tryz.pinned (OpenSpec.upto sackTellsSpec)

/-- 'wharflaw16.ForwardMatchesReference', WHERE WHAT IT READS IS OF BULK AT MOST 1048576: true; the input reads as it did. -/
def forwardMatchesReferenceUptoRow : OpenClaim := { program := "ytcjcgehhmjnlcaagreatdoor", sum := "10e7d59f4b173b1697c1b6a5e348248dc3b4aa37a3121d922d1744e20d28cfb8", func := "wharf/wharflaw16.ForwardMatchesReference", spec := "forwardMatchesReference", inPlace := ["internal/reflectlite.ValueOf", "(internal/reflectlite.Value).Type", "(internal/reflectlite.Value).IsNil", "internal/reflectlite.TypeOf", "(internal/reflectlite.Value).Elem", "(internal/reflectlite.Value).Set"], unfollowed := true, recurses := true, named := ["wharf/kind.table", "wharf/kind.inside", "errors.errorType"], plainKeys := false, apart := false, laid := [("errors.errorType", laid_errors_errorType), ("wharf/kind.table", laid_wharf_kind_table), ("wharf/kind.inside", laid_wharf_kind_inside)], narrowed := true }
def ForwardMatchesReferenceUptoSaid : Prop := forwardMatchesReferenceUptoRow.holds Tryz.pinned (OpenSpec.upto forwardMatchesReferenceSpec)

/-- 'wharflaw16.ForwardChunks', WHERE WHAT IT READS IS OF BULK AT MOST 1048576: true; the input reads as it did. -/
def forwardChunksUptoRow : OpenClaim := { program := "ytcjcgehhmjnlcaagreatdoor", sum := "10e7d59f4b173b1697c1b6a5e348248dc3b4aa37a3121d922d1744e20d28cfb8", func := "wharf/wharflaw16.ForwardChunks", spec := "forwardChunks", inPlace := ["internal/reflectlite.ValueOf", "(internal/reflectlite.Value).Type", "(internal/reflectlite.Value).IsNil", "internal/reflectlite.TypeOf", "(internal/reflectlite.Value).Elem", "(internal/reflectlite.Value).Set"], unfollowed := true, recurses := true, named := ["wharf/kind.table", "wharf/kind.inside", "errors.errorType"], loops := true, plainKeys := false, apart := false, laid := [("errors.errorType", laid_errors_errorType), ("wharf/kind.table", laid_wharf_kind_table), ("wharf/kind.inside", laid_wharf_kind_inside)], narrowed := true }
def ForwardChunksUptoSaid : Prop := forwardChunksUptoRow.holds Tryz.pinned (OpenSpec.upto forwardChunksSpec)

/-- 'wharflaw16.ForwardMerges', WHERE WHAT IT READS IS OF BULK AT MOST 1048576: true; the input reads as it did. -/
def forwardMergesUptoRow : OpenClaim := { program := "ytcjcgehhmjnlcaagreatdoor", sum := "10e7d59f4b173b1697c1b6a5e348248dc3b4aa37a3121d922d1744e20d28cfb8", func := "wharf/wharflaw16.ForwardMerges", spec := "forwardMerges", inPlace := ["internal/reflectlite.ValueOf", "(internal/reflectlite.Value).Type", "(internal/reflectlite.Value).IsNil", "internal/reflectlite.TypeOf", "(internal/reflectlite.Value).Elem", "(internal/reflectlite.Value).Set"], unfollowed := true, recurses := true, named := ["wharf/kind.table", "wharf/kind.inside", "errors.errorType"], plainKeys := false, apart := false, laid := [("errors.errorType", laid_errors_errorType), ("wharf/kind.table", laid_wharf_kind_table), ("wharf/kind.inside", laid_wharf_kind_inside)], narrowed := true }
def ForwardMergesUptoSaid : Prop := forwardMergesUptoRow.holds Tryz.pinned (OpenSpec.upto forwardMergesSpec)

end Rows
end Go.Proofs.YtcjcgehhmjnlcaaGreatDoor
