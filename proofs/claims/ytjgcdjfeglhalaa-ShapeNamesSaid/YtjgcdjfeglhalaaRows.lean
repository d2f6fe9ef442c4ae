/-
  No cell of these rows narrows 'for every input' (looked for: loops, veiled, ifaces, maps, wideKeys, modest, calm, conditions, laid).
  DERIVED. THE GIVEN ROWS OF THIS SEAT. 5 by the template 'for every input the law returns true; each argument reads behind the call as it read before'; 0 by the template 'total and deterministic' (their statements: YtjgcdjfeglhalaaTotals.lean).
  GIVEN WITH THE SEED: the statements are not yours to turn. If you find one false, say at which input.
  Laid BY PROGRAM, IN A SANDBOX (cutbox-rows.mjs): the forced cells as the released guide's own fill.sh prints them over the translation 79d6fefec137b69e… (all of the seat's roots in one cut). By AI agents, Wed Nov 11 2026. No macro, syntax, notation, axiom, sorry.
-/
import Derived.Test.YtjgcdjfeglhalaaChecked
import GoSem.Claim
import GoSem.ClaimJoined
import GoSem.ClaimMapViews
import Derived.JoinedTies
import Derived.KernelRfl
namespace Go.Proofs.Ytjgcdjfeglhalaa
/- THE CELL 'sum', in the pinned program and in every row, IS THE sha256 OF THE DUMP (.gsa) THAT YtjgcdjfeglhalaaProg.lean LOADS. Nothing in Lean hashes anything: it is a label: what it is worth is what the hold of that sum in a sandbox is worth. -/
noncomputable def Try.pinned : Pinned := { name := "ytjgcdjfeglhalaa", sum := "79d6fefec137b69e94f98b9d9b3b5908f897fbae7bf097191f1fc260e3c4cf3c", checked := Try.checked }
namespace Rows
def none {H : Type} : Left H := { results := [], args := [] }

/-- 'wharflaw07.ShapeFits': WHATEVER THE INPUT: true; the input reads as it did. -/
def shapeFitsSpec : ChangeSpec := { name := "shapeFits", fn := fun _ => fun
  | [d1, d2] => { results := [.lit (.bool true)], args := [d1, d2] }
  | _ => none }
def shapeFitsRow : OpenClaim := { program := "ytjgcdjfeglhalaa", sum := "79d6fefec137b69e94f98b9d9b3b5908f897fbae7bf097191f1fc260e3c4cf3c", func := "wharf/wharflaw07.ShapeFits", spec := "shapeFits", unfollowed := true, recurses := true, apart := false }
def ShapeFitsSaid : Prop := shapeFitsRow.holds Try.pinned (OpenSpec.ofChange shapeFitsSpec)

/-- ITS FALSE NEIGHBOUR: 'it returns false'. Refute it at one input. -/
def shapeFitsWrong : ChangeSpec := { name := "shapeFits", fn := fun _ => fun
  | [d1, d2] => { results := [.lit (.bool false)], args := [d1, d2] }
  | _ => none }
def ShapeFitsWrongFalsely : Prop := shapeFitsRow.holds Try.pinned (OpenSpec.ofChange shapeFitsWrong)

/-- 'wharflaw07.ShapeInside': WHATEVER THE INPUT: true; the input reads as it did. -/
def shapeInsideSpec : ChangeSpec := { name := "shapeInside", fn := fun _ => fun
  | [d1, d2] => { results := [.lit (.bool true)], args := [d1, d2] }
  | _ => none }
def shapeInsideRow : OpenClaim := { program := "ytjgcdjfeglhalaa", sum := "79d6fefec137b69e94f98b9d9b3b5908f897fbae7bf097191f1fc260e3c4cf3c", func := "wharf/wharflaw07.ShapeInside", spec := "shapeInside", unfollowed := true, recurses := true, apart := false }
def ShapeInsideSaid : Prop := shapeInsideRow.holds Try.pinned (OpenSpec.ofChange shapeInsideSpec)

/-- ITS FALSE NEIGHBOUR: 'it returns false'. Refute it at one input. -/
def shapeInsideWrong : ChangeSpec := { name := "shapeInside", fn := fun _ => fun
  | [d1, d2] => { results := [.lit (.bool false)], args := [d1, d2] }
  | _ => none }
def ShapeInsideWrongFalsely : Prop := shapeInsideRow.holds Try.pinned (OpenSpec.ofChange shapeInsideWrong)

/-- 'wharflaw07.ShapeMatchesReference': WHATEVER THE INPUT: true; the input reads as it did. -/
def shapeMatchesReferenceSpec : ChangeSpec := { name := "shapeMatchesReference", fn := fun _ => fun
  | [d1, d2] => { results := [.lit (.bool true)], args := [d1, d2] }
  | _ => none }
def shapeMatchesReferenceRow : OpenClaim := { program := "ytjgcdjfeglhalaa", sum := "79d6fefec137b69e94f98b9d9b3b5908f897fbae7bf097191f1fc260e3c4cf3c", func := "wharf/wharflaw07.ShapeMatchesReference", spec := "shapeMatchesReference", unfollowed := true, recurses := true, apart := false }
def ShapeMatchesReferenceSaid : Prop := shapeMatchesReferenceRow.holds Try.pinned (OpenSpec.ofChange shapeMatchesReferenceSpec)

/-- ITS FALSE NEIGHBOUR: 'it returns false'. Refute it at one input. -/
def shapeMatchesReferenceWrong : ChangeSpec := { name := "shapeMatchesReference", fn := fun _ => fun
  | [d1, d2] => { results := [.lit (.bool false)], args := [d1, d2] }
  | _ => none }
def ShapeMatchesReferenceWrongFalsely : Prop := shapeMatchesReferenceRow.holds Try.pinned (OpenSpec.ofChange shapeMatchesReferenceWrong)

/-- 'wharflaw07.ShapeNames': WHATEVER THE INPUT: true; the input reads as it did. -/
def shapeNamesSpec : ChangeSpec := { name := "shapeNames", fn := fun _ => fun
  | [d1, d2] => { results := [.lit (.bool true)], args := [d1, d2] }
  | _ => none }
def shapeNamesRow : OpenClaim := { program := "ytjgcdjfeglhalaa", sum := "79d6fefec137b69e94f98b9d9b3b5908f897fbae7bf097191f1fc260e3c4cf3c", func := "wharf/wharflaw07.ShapeNames", spec := "shapeNames", unfollowed := true, recurses := true, apart := false }
def ShapeNamesSaid : Prop := shapeNamesRow.holds Try.pinned (OpenSpec.ofChange shapeNamesSpec)

/-- ITS FALSE NEIGHBOUR: 'it returns false'. Refute it at one input. -/
def shapeNamesWrong : ChangeSpec := { name := "shapeNames", fn := fun _ => fun
  | [d1, d2] => { results := [.lit (.bool false)], args := [d1, d2] }
  | _ => none }
def ShapeNamesWrongFalsely : Prop := shapeNamesRow.holds Try.pinned (OpenSpec.ofChange shapeNamesWrong)

/-- 'wharflaw07.ShapeTypes': WHATEVER THE INPUT: true; the input reads as it did. -/
def shapeTypesSpec : ChangeSpec := { name := "shapeTypes", fn := fun _ => fun
  | [d] => { results := [.lit (.bool true)], args := [d] }
  | _ => none }
def shapeTypesRow : OpenClaim := { program := "ytjgcdjfeglhalaa", sum := "79d6fefec137b69e94f98b9d9b3b5908f897fbae7bf097191f1fc260e3c4cf3c", func := "wharf/wharflaw07.ShapeTypes", spec := "shapeTypes", unfollowed := true, recurses := true, apart := false }
def ShapeTypesSaid : Prop := shapeTypesRow.holds Try.pinned (OpenSpec.ofChange shapeTypesSpec)

/-- ITS FALSE NEIGHBOUR: 'it returns false'. Refute it at one input. -/
def shapeTypesWrong : ChangeSpec := { name := "shapeTypes", fn := fun _ => fun
  | [d] => { results := [.lit (.bool false)], args := [d] }
  | _ => none }
def ShapeTypesWrongFalsely : Prop := shapeTypesRow.holds Try.pinned (OpenSpec.ofChange shapeTypesWrong)

/- THE SECOND FORM. 'bulk': how many values and letters a reading holds, each counted each time it is reached (what is shared counts as often as it is met; a slice's spare places count too). A statement '..UptoSaid' is the law's where the arguments, and the package variables that the reading takes, are together of bulk at most 1048576: NARROWER than '..Said'. Prove '..Said' where nothing that the law and all that it calls make is longer than what came in: it says more and counts as full. Else prove '..UptoSaid'. A law counts once. -/
mutual
def uptoBulk {H : Type} : DataW H → Nat
  | .lit (.string bytes) => bytes.length + 1
  | .lit _ => 1
  | .nil => 1
  | .ptr d => uptoBulk d + 1
  | .slice elems spare => uptoBulkAll elems + uptoBulkAll spare + 1
  | .agg parts => uptoBulkAll parts + 1
  | .iface _ d => uptoBulk d + 1
  | .map entries => uptoBulkEntries entries + 1
  | .held _ => 1
def uptoBulkAll {H : Type} : List (DataW H) → Nat
  | [] => 0
  | d :: r => uptoBulk d + uptoBulkAll r
def uptoBulkEntries {H : Type} : List (Lit × DataW H) → Nat
  | [] => 0
  | x :: r => uptoBulkEntry x + uptoBulkEntries r
def uptoBulkEntry {H : Type} : Lit × DataW H → Nat
  | (.string bytes, d) => bytes.length + uptoBulk d + 1
  | (_, d) => uptoBulk d + 1
 end
def uptoSmall : (H : Type) → List (DataW H) → Bool := fun _ ds => decide (uptoBulkAll ds ≤ 1048576)
def OpenSpec.upto (s : _root_.Go.ChangeSpec) : _root_.Go.OpenSpec := { _root_.Go.OpenSpec.ofChange s with cond := some uptoSmall }

/-- 'wharflaw07.ShapeFits', WHERE WHAT IT READS IS OF BULK AT MOST 1048576: true; the input reads as it did. -/
def shapeFitsUptoRow : OpenClaim := { program := "ytjgcdjfeglhalaa", sum := "79d6fefec137b69e94f98b9d9b3b5908f897fbae7bf097191f1fc260e3c4cf3c", func := "wharf/wharflaw07.ShapeFits", spec := "shapeFits", unfollowed := true, recurses := true, apart := false, narrowed := true }
def ShapeFitsUptoSaid : Prop := shapeFitsUptoRow.holds Try.pinned (OpenSpec.upto shapeFitsSpec)

/-- 'wharflaw07.ShapeInside', WHERE WHAT IT READS IS OF BULK AT MOST 1048576: true; the input reads as it did. -/
def shapeInsideUptoRow : OpenClaim := { program := "ytjgcdjfeglhalaa", sum := "79d6fefec137b69e94f98b9d9b3b5908f897fbae7bf097191f1fc260e3c4cf3c", func := "wharf/wharflaw07.ShapeInside", spec := "shapeInside", unfollowed := true, recurses := true, apart := false, narrowed := true }
def ShapeInsideUptoSaid : Prop := shapeInsideUptoRow.holds Try.pinned (OpenSpec.upto shapeInsideSpec)

/-- 'wharflaw07.ShapeMatchesReference', WHERE WHAT IT READS IS OF BULK AT MOST 1048576: true; the input reads as it did. -/
def shapeMatchesReferenceUptoRow : OpenClaim := { program := "ytjgcdjfeglhalaa", sum := "79d6fefec137b69e94f98b9d9b3b5908f897fbae7bf097191f1fc260e3c4cf3c", func := "wharf/wharflaw07.ShapeMatchesReference", spec := "shapeMatchesReference", unfollowed := true, recurses := true, apart := false, narrowed := true }
def ShapeMatchesReferenceUptoSaid : Prop := shapeMatchesReferenceUptoRow.holds Try.pinned (OpenSpec.upto shapeMatchesReferenceSpec)

/-- 'wharflaw07.ShapeNames', WHERE WHAT IT READS IS OF BULK AT MOST 1048576: true; the input reads as it did. -/
def shapeNamesUptoRow : OpenClaim := { program := "ytjgcdjfeglhalaa", sum := "79d6fefec137b69e94f98b9d9b3b5908f897fbae7bf097191f1fc260e3c4cf3c", func := "wharf/wharflaw07.ShapeNames", spec := "shapeNames", unfollowed := true, recurses := true, apart := false, narrowed := true }
def ShapeNamesUptoSaid : Prop := shapeNamesUptoRow.holds Try.pinned (OpenSpec.upto shapeNamesSpec)

/-- 'wharflaw07.ShapeTypes', WHERE WHAT IT READS IS OF BULK AT MOST 1048576: true; the input reads as it did. -/
def shapeTypesUptoRow : OpenClaim := { program := "ytjgcdjfeglhalaa", sum := "79d6fefec137b69e94f98b9d9b3b5908f897fbae7bf097191f1fc260e3c4cf3c", func := "wharf/wharflaw07.ShapeTypes", spec := "shapeTypes", unfollowed := true, recurses := true, apart := false, narrowed := true }
def ShapeTypesUptoSaid : Prop := shapeTypesUptoRow.holds Try.pinned (OpenSpec.upto shapeTypesSpec)

end Rows
end Go.Proofs.Ytjgcdjfeglhalaa
