/-
  NARROWER THAN 'FOR EVERY INPUT', by the rows' own cells (each row's printed sentence says how): ActionMatchesReference: laid · ActionPlays: laid · ActionCuts: laid · ActionOpposite: laid.
  DERIVED. THE GIVEN ROWS OF THIS SEAT. 4 by the template 'for every input the law returns true; each argument reads behind the call as it read before'; 0 by the template 'total and deterministic' (their statements: YtjgcdjfeglhalaaDoorTotals.lean).
  GIVEN WITH THE SEED: the statements are not yours to turn. If you find one false, say at which input.
  Laid BY PROGRAM, IN A SANDBOX (cutbox-rows.mjs): the forced cells as the released guide's own fill.sh prints them over the translation 1c5ec269165e6e82… (all of the seat's roots in one cut). By AI agents, Wed Nov 11 2026. No macro, syntax, notation, axiom, sorry.
-/
import Derived.Test.YtjgcdjfeglhalaaDoorChecked
import GoSem.Claim
import GoSem.ClaimJoined
import GoSem.ClaimMapViews
import Derived.JoinedTies
import Derived.KernelRfl
namespace Go.Proofs.YtjgcdjfeglhalaaDoor
/- THE CELL 'sum', in the pinned program and in every row, IS THE sha256 OF THE DUMP (.gsa) THAT YtjgcdjfeglhalaaDoorProg.lean LOADS. Nothing in Lean hashes anything: it is a label: what it is worth is what the hold of that sum in a sandbox is worth. -/
noncomputable def Tryd.pinned : Pinned := { name := "ytjgcdjfeglhalaadoor", sum := "1c5ec269165e6e825a8d19fb2fbf407f532113bb3be492966f96401214f20f18", checked := Tryd.checked }
namespace Rows
def none {H : Type} : Left H := { results := [], args := [] }

/- WHAT THE LISTED PACKAGE-LEVEL VARIABLES READ AS WHEN THE CALL BEGINS. Each datum BY PROGRAM (the guide's laid-datum.mjs) off the statement by which the dump's own 'gosem.cut.vars' lays the variable. In a bare row this is a premise. The card (YtjgcdjfeglhalaaDoorCards.lean) ties it to the program's text. -/
def laid_wharf_kind_table {H : Type} : DataW H := .agg [.agg [.lit (.int .u8 0), .lit (.string [100, 97, 116, 97]), .lit (.int .u8 15), .lit (.int .i64 13), .lit (.int .i64 65531), .lit (.int .i64 1), .lit (.int .i64 0)], .agg [.lit (.int .u8 1), .lit (.string [105, 110, 105, 116]), .lit (.int .u8 0), .lit (.int .i64 16), .lit (.int .i64 16), .lit (.int .i64 1), .lit (.int .i64 2)], .agg [.lit (.int .u8 2), .lit (.string [105, 110, 105, 116, 45, 97, 99, 107]), .lit (.int .u8 0), .lit (.int .i64 16), .lit (.int .i64 16), .lit (.int .i64 1), .lit (.int .i64 2)], .agg [.lit (.int .u8 3), .lit (.string [115, 97, 99, 107]), .lit (.int .u8 0), .lit (.int .i64 12), .lit (.int .i64 65531), .lit (.int .i64 4), .lit (.int .i64 0)], .agg [.lit (.int .u8 4), .lit (.string [104, 101, 97, 114, 116, 98, 101, 97, 116]), .lit (.int .u8 0), .lit (.int .i64 0), .lit (.int .i64 0), .lit (.int .i64 1), .lit (.int .i64 1)], .agg [.lit (.int .u8 5), .lit (.string [104, 101, 97, 114, 116, 98, 101, 97, 116, 45, 97, 99, 107]), .lit (.int .u8 0), .lit (.int .i64 0), .lit (.int .i64 0), .lit (.int .i64 1), .lit (.int .i64 1)], .agg [.lit (.int .u8 6), .lit (.string [97, 98, 111, 114, 116]), .lit (.int .u8 1), .lit (.int .i64 0), .lit (.int .i64 0), .lit (.int .i64 1), .lit (.int .i64 3)], .agg [.lit (.int .u8 7), .lit (.string [115, 104, 117, 116, 100, 111, 119, 110]), .lit (.int .u8 0), .lit (.int .i64 4), .lit (.int .i64 4), .lit (.int .i64 1), .lit (.int .i64 0)], .agg [.lit (.int .u8 8), .lit (.string [115, 104, 117, 116, 100, 111, 119, 110, 45, 97, 99, 107]), .lit (.int .u8 0), .lit (.int .i64 0), .lit (.int .i64 0), .lit (.int .i64 1), .lit (.int .i64 0)], .agg [.lit (.int .u8 9), .lit (.string [101, 114, 114, 111, 114]), .lit (.int .u8 0), .lit (.int .i64 0), .lit (.int .i64 0), .lit (.int .i64 1), .lit (.int .i64 4)], .agg [.lit (.int .u8 10), .lit (.string [99, 111, 111, 107, 105, 101, 45, 101, 99, 104, 111]), .lit (.int .u8 0), .lit (.int .i64 1), .lit (.int .i64 65531), .lit (.int .i64 1), .lit (.int .i64 0)], .agg [.lit (.int .u8 11), .lit (.string [99, 111, 111, 107, 105, 101, 45, 97, 99, 107]), .lit (.int .u8 0), .lit (.int .i64 0), .lit (.int .i64 0), .lit (.int .i64 1), .lit (.int .i64 0)], .agg [.lit (.int .u8 12), .lit (.string [101, 99, 110, 101]), .lit (.int .u8 0), .lit (.int .i64 4), .lit (.int .i64 4), .lit (.int .i64 1), .lit (.int .i64 0)], .agg [.lit (.int .u8 13), .lit (.string [99, 119, 114]), .lit (.int .u8 0), .lit (.int .i64 4), .lit (.int .i64 4), .lit (.int .i64 1), .lit (.int .i64 0)], .agg [.lit (.int .u8 14), .lit (.string [115, 104, 117, 116, 100, 111, 119, 110, 45, 99, 111, 109, 112, 108, 101, 116, 101]), .lit (.int .u8 1), .lit (.int .i64 0), .lit (.int .i64 0), .lit (.int .i64 1), .lit (.int .i64 0)], .agg [.lit (.int .u8 15), .lit (.string [97, 117, 116, 104]), .lit (.int .u8 0), .lit (.int .i64 5), .lit (.int .i64 65531), .lit (.int .i64 1), .lit (.int .i64 0)], .agg [.lit (.int .u8 64), .lit (.string [105, 45, 100, 97, 116, 97]), .lit (.int .u8 15), .lit (.int .i64 17), .lit (.int .i64 65531), .lit (.int .i64 1), .lit (.int .i64 0)], .agg [.lit (.int .u8 128), .lit (.string [97, 115, 99, 111, 110, 102, 45, 97, 99, 107]), .lit (.int .u8 0), .lit (.int .i64 4), .lit (.int .i64 4), .lit (.int .i64 1), .lit (.int .i64 2)], .agg [.lit (.int .u8 130), .lit (.string [114, 101, 45, 99, 111, 110, 102, 105, 103]), .lit (.int .u8 0), .lit (.int .i64 0), .lit (.int .i64 0), .lit (.int .i64 1), .lit (.int .i64 5)], .agg [.lit (.int .u8 132), .lit (.string [112, 97, 100]), .lit (.int .u8 0), .lit (.int .i64 0), .lit (.int .i64 65531), .lit (.int .i64 1), .lit (.int .i64 0)], .agg [.lit (.int .u8 192), .lit (.string [102, 111, 114, 119, 97, 114, 100, 45, 116, 115, 110]), .lit (.int .u8 0), .lit (.int .i64 4), .lit (.int .i64 65531), .lit (.int .i64 4), .lit (.int .i64 0)], .agg [.lit (.int .u8 193), .lit (.string [97, 115, 99, 111, 110, 102]), .lit (.int .u8 0), .lit (.int .i64 4), .lit (.int .i64 4), .lit (.int .i64 1), .lit (.int .i64 6)], .agg [.lit (.int .u8 194), .lit (.string [105, 45, 102, 111, 114, 119, 97, 114, 100, 45, 116, 115, 110]), .lit (.int .u8 0), .lit (.int .i64 4), .lit (.int .i64 65531), .lit (.int .i64 8), .lit (.int .i64 0)]]
def laid_wharf_action_names {H : Type} : DataW H := .agg [.lit (.string [115, 116, 111, 112]), .lit (.string [115, 116, 111, 112, 45, 114, 101, 112, 111, 114, 116]), .lit (.string [115, 107, 105, 112]), .lit (.string [115, 107, 105, 112, 45, 114, 101, 112, 111, 114, 116]), .lit (.string [112, 114, 111, 99, 101, 115, 115])]

/-- 'wharflaw23.ActionMatchesReference': WHATEVER THE INPUT: true; the input reads as it did. -/
def actionMatchesReferenceSpec : ChangeSpec := { name := "actionMatchesReference", fn := fun _ => fun
  | [d1, d2, d3] => { results := [.lit (.bool true)], args := [d1, d2, d3] }
  | _ => none }
def actionMatchesReferenceRow : OpenClaim := { program := "ytjgcdjfeglhalaadoor", sum := "1c5ec269165e6e825a8d19fb2fbf407f532113bb3be492966f96401214f20f18", func := "wharf/wharflaw23.ActionMatchesReference", spec := "actionMatchesReference", unfollowed := true, recurses := true, named := ["wharf/kind.table", "wharf/action.names"], apart := false, laid := [("wharf/kind.table", laid_wharf_kind_table), ("wharf/action.names", laid_wharf_action_names)] }
def ActionMatchesReferenceSaid : Prop := actionMatchesReferenceRow.holds Tryd.pinned (OpenSpec.ofChange actionMatchesReferenceSpec)

/-- ITS FALSE NEIGHBOUR: 'it returns false'. Refute it at one input. -/
def actionMatchesReferenceWrong : ChangeSpec := { name := "actionMatchesReference", fn := fun _ => fun
  | [d1, d2, d3] => { results := [.lit (.bool false)], args := [d1, d2, d3] }
  | _ => none }
def ActionMatchesReferenceWrongFalsely : Prop := actionMatchesReferenceRow.holds Tryd.pinned (OpenSpec.ofChange actionMatchesReferenceWrong)

/-- 'wharflaw23.ActionPlays': WHATEVER THE INPUT: true; the input reads as it did. -/
def actionPlaysSpec : ChangeSpec := { name := "actionPlays", fn := fun _ => fun
  | [d] => { results := [.lit (.bool true)], args := [d] }
  | _ => none }
def actionPlaysRow : OpenClaim := { program := "ytjgcdjfeglhalaadoor", sum := "1c5ec269165e6e825a8d19fb2fbf407f532113bb3be492966f96401214f20f18", func := "wharf/wharflaw23.ActionPlays", spec := "actionPlays", unfollowed := true, recurses := true, named := ["wharf/kind.table", "wharf/action.names"], apart := false, laid := [("wharf/kind.table", laid_wharf_kind_table), ("wharf/action.names", laid_wharf_action_names)] }
def ActionPlaysSaid : Prop := actionPlaysRow.holds Tryd.pinned (OpenSpec.ofChange actionPlaysSpec)

/-- ITS FALSE NEIGHBOUR: 'it returns false'. Refute it at one input. -/
def actionPlaysWrong : ChangeSpec := { name := "actionPlays", fn := fun _ => fun
  | [d] => { results := [.lit (.bool false)], args := [d] }
  | _ => none }
def ActionPlaysWrongFalsely : Prop := actionPlaysRow.holds Tryd.pinned (OpenSpec.ofChange actionPlaysWrong)

/-- 'wharflaw23.ActionCuts': WHATEVER THE INPUT: true; the input reads as it did. -/
def actionCutsSpec : ChangeSpec := { name := "actionCuts", fn := fun _ => fun
  | [d1, d2] => { results := [.lit (.bool true)], args := [d1, d2] }
  | _ => none }
def actionCutsRow : OpenClaim := { program := "ytjgcdjfeglhalaadoor", sum := "1c5ec269165e6e825a8d19fb2fbf407f532113bb3be492966f96401214f20f18", func := "wharf/wharflaw23.ActionCuts", spec := "actionCuts", unfollowed := true, recurses := true, named := ["wharf/kind.table", "wharf/action.names"], apart := false, laid := [("wharf/kind.table", laid_wharf_kind_table), ("wharf/action.names", laid_wharf_action_names)] }
def ActionCutsSaid : Prop := actionCutsRow.holds Tryd.pinned (OpenSpec.ofChange actionCutsSpec)

/-- ITS FALSE NEIGHBOUR: 'it returns false'. Refute it at one input. -/
def actionCutsWrong : ChangeSpec := { name := "actionCuts", fn := fun _ => fun
  | [d1, d2] => { results := [.lit (.bool false)], args := [d1, d2] }
  | _ => none }
def ActionCutsWrongFalsely : Prop := actionCutsRow.holds Tryd.pinned (OpenSpec.ofChange actionCutsWrong)

/-- 'wharflaw23.ActionOpposite': WHATEVER THE INPUT: true; the input reads as it did. -/
def actionOppositeSpec : ChangeSpec := { name := "actionOpposite", fn := fun _ => fun
  | [d1, d2] => { results := [.lit (.bool true)], args := [d1, d2] }
  | _ => none }
def actionOppositeRow : OpenClaim := { program := "ytjgcdjfeglhalaadoor", sum := "1c5ec269165e6e825a8d19fb2fbf407f532113bb3be492966f96401214f20f18", func := "wharf/wharflaw23.ActionOpposite", spec := "actionOpposite", unfollowed := true, recurses := true, named := ["wharf/kind.table", "wharf/action.names"], apart := false, laid := [("wharf/kind.table", laid_wharf_kind_table), ("wharf/action.names", laid_wharf_action_names)] }
def ActionOppositeSaid : Prop := actionOppositeRow.holds Tryd.pinned (OpenSpec.ofChange actionOppositeSpec)

/-- ITS FALSE NEIGHBOUR: 'it returns false'. Refute it at one input. -/
def actionOppositeWrong : ChangeSpec := { name := "actionOpposite", fn := fun _ => fun
  | [d1, d2] => { results := [.lit (.bool false)], args := [d1, d2] }
  | _ => none }
def ActionOppositeWrongFalsely : Prop := actionOppositeRow.holds Tryd.pinned (OpenSpec.ofChange actionOppositeWrong)

/- THE SECOND FORM. 'bulk': how many values and letters a reading holds, each counted each time it is reached (what is shared counts as often as it is met; a slice's spare places count too). A statement '..UptoSaid' is the law's where the arguments, and the package variables that the reading takes, are together of bulk at most 1048576: NARROWER than '..Said'. Prove '..Said' where nothing that the law and all that it calls make is longer than what came in: it says more and counts as full. Else prove '..UptoSaid'. A law counts once. -/
mutual
def uptoBulk {H : Type} : DataW H → Nat
  | .lit (.string bytes) => bytes.length + 1
  | .lit _ => 1
  | .nil => 1
  | .ptr d => uptoBulk d + 1
  | .slice elems spare => uptoBulkAll elems + uptoBulkAll spare + 1
  | .agg parts => uptoBulkAll parts + 1
  | .iface _ d => uptoBulk d + 1
  | .map entries => uptoBulkEntries entries + 1
  | .held _ => 1
def uptoBulkAll {H : Type} : List (DataW H) → Nat
  | [] => 0
  | d :: r => uptoBulk d + uptoBulkAll r
def uptoBulkEntries {H : Type} : List (Lit × DataW H) → Nat
  | [] => 0
  | x :: r => uptoBulkEntry x + uptoBulkEntries r
def uptoBulkEntry {H : Type} : Lit × DataW H → Nat
  | (.string bytes, d) => bytes.length + uptoBulk d + 1
  | (_, d) => uptoBulk d + 1
 end
def uptoSmall : (H : Type) → List (DataW H) → Bool := fun _ ds => decide (uptoBulkAll ds ≤ 1048576)
def OpenSpec.upto (s : _root_.Go.ChangeSpec) : _root_.Go.OpenSpec := { _root_.Go.OpenSpec.ofChange s with cond := some uptoSmall }

/-- 'wharflaw23.ActionMatchesReference', WHERE WHAT IT READS IS OF BULK AT MOST 1048576: true; the input reads as it did. -/
def actionMatchesReferenceUptoRow : OpenClaim := { program := "ytjgcdjfeglhalaadoor", sum := "1c5ec269165e6e825a8d19fb2fbf407f532113bb3be492966f96401214f20f18", func := "wharf/wharflaw23.ActionMatchesReference", spec := "actionMatchesReference", unfollowed := true, recurses := true, named := ["wharf/kind.table", "wharf/action.names"], apart := false, laid := [("wharf/kind.table", laid_wharf_kind_table), ("wharf/action.names", laid_wharf_action_names)], narrowed := true }
def ActionMatchesReferenceUptoSaid : Prop := actionMatchesReferenceUptoRow.holds Tryd.pinned (OpenSpec.upto actionMatchesReferenceSpec)

/-- 'wharflaw23.ActionPlays', WHERE WHAT IT READS IS OF BULK AT MOST 1048576: true; the input reads as it did. -/
def actionPlaysUptoRow : OpenClaim := { program := "ytjgcdjfeglhalaadoor", sum := "1c5ec269165e6e825a8d19fb2fbf407f532113bb3be492966f96401214f20f18", func := "wharf/wharflaw23.ActionPlays", spec := "actionPlays", unfollowed := true, recurses := true, named := ["wharf/kind.table", "wharf/action.names"], apart := false, laid := [("wharf/kind.table", laid_wharf_kind_table), ("wharf/action.names", laid_wharf_action_names)], narrowed := true }
def ActionPlaysUptoSaid : Prop := actionPlaysUptoRow.holds Tryd.pinned (OpenSpec.upto actionPlaysSpec)

/-- 'wharflaw23.ActionCuts', WHERE WHAT IT READS IS OF BULK AT MOST 1048576: true; the input reads as it did. -/
def actionCutsUptoRow : OpenClaim := { program := "ytjgcdjfeglhalaadoor", sum := "1c5ec269165e6e825a8d19fb2fbf407f532113bb3be492966f96401214f20f18", func := "wharf/wharflaw23.ActionCuts", spec := "actionCuts", unfollowed := true, recurses := true, named := ["wharf/kind.table", "wharf/action.names"], apart := false, laid := [("wharf/kind.table", laid_wharf_kind_table), ("wharf/action.names", laid_wharf_action_names)], narrowed := true }
def ActionCutsUptoSaid : Prop := actionCutsUptoRow.holds Tryd.pinned (OpenSpec.upto actionCutsSpec)

/-- 'wharflaw23.ActionOpposite', WHERE WHAT IT READS IS OF BULK AT MOST 1048576: true; the input reads as it did. -/
def actionOppositeUptoRow : OpenClaim := { program := "ytjgcdjfeglhalaadoor", sum := "1c5ec269165e6e825a8d19fb2fbf407f532113bb3be492966f96401214f20f18", func := "wharf/wharflaw23.ActionOpposite", spec := "actionOpposite", unfollowed := true, recurses := true, named := ["wharf/kind.table", "wharf/action.names"], apart := false, laid := [("wharf/kind.table", laid_wharf_kind_table), ("wharf/action.names", laid_wharf_action_names)], narrowed := true }
def ActionOppositeUptoSaid : Prop := actionOppositeUptoRow.holds Tryd.pinned (OpenSpec.upto actionOppositeSpec)

end Rows
end Go.Proofs.YtjgcdjfeglhalaaDoor
