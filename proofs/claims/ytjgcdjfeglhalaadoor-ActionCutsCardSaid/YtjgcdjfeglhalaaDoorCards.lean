/-
  DERIVED. GIVEN WITH THE SEED: THE CARDS: each row of YtjgcdjfeglhalaaDoorRows.lean that lists a variable, with what it lists TIED to the program's text (the seventh form; the later family's looks); each row that meets fmt, with fmt's text TOLD by the authors' own Lean function (tested against real Go, not proved from fmt's source: count such statements apart). THE CARD IS WHAT COUNTS. Prove the row's statement (the work); the ties are given (YtjgcdjfeglhalaaDoorTie.lean); close each card by the builder's one call (the guide's Derived/Test/ToyasCard.lean, 'card_holds'). Laid BY PROGRAM, IN A SANDBOX (cutbox-door.mjs). By AI agents, Wed Nov 11 2026. No macro, syntax, notation, axiom, sorry.
-/
import Derived.Test.YtjgcdjfeglhalaaDoorRows
import GoSem.ClaimSeven
namespace Go.Proofs.YtjgcdjfeglhalaaDoor
namespace Rows

/-- THE TIED CARD OF 'wharflaw23.ActionMatchesReference'. -/
def actionMatchesReferenceCard : Claim7 := { stood := { row := actionMatchesReferenceRow, standIns := [], harness := (true, "666c9b38e8c742f90efe6dfdb25de6caf6c90d1f97e5f9cf3b7e3a45699a55d4"), looks := false }, kinds := [], alts := [], laidByText := true, laidKinds := [.widerDeep, .data], laidTests := true, laidLooks := .later }
def ActionMatchesReferenceCardSaid : Prop := Claim7.holds Tryd.pinned (.plain (OpenSpec.ofChange actionMatchesReferenceSpec)) actionMatchesReferenceCard

/-- THE TIED CARD OF 'wharflaw23.ActionPlays'. -/
def actionPlaysCard : Claim7 := { stood := { row := actionPlaysRow, standIns := [], harness := (true, "666c9b38e8c742f90efe6dfdb25de6caf6c90d1f97e5f9cf3b7e3a45699a55d4"), looks := false }, kinds := [], alts := [], laidByText := true, laidKinds := [.widerDeep, .data], laidTests := true, laidLooks := .later }
def ActionPlaysCardSaid : Prop := Claim7.holds Tryd.pinned (.plain (OpenSpec.ofChange actionPlaysSpec)) actionPlaysCard

/-- THE TIED CARD OF 'wharflaw23.ActionCuts'. -/
def actionCutsCard : Claim7 := { stood := { row := actionCutsRow, standIns := [], harness := (true, "666c9b38e8c742f90efe6dfdb25de6caf6c90d1f97e5f9cf3b7e3a45699a55d4"), looks := false }, kinds := [], alts := [], laidByText := true, laidKinds := [.widerDeep, .data], laidTests := true, laidLooks := .later }
def ActionCutsCardSaid : Prop := Claim7.holds Tryd.pinned (.plain (OpenSpec.ofChange actionCutsSpec)) actionCutsCard

/-- THE TIED CARD OF 'wharflaw23.ActionOpposite'. -/
def actionOppositeCard : Claim7 := { stood := { row := actionOppositeRow, standIns := [], harness := (true, "666c9b38e8c742f90efe6dfdb25de6caf6c90d1f97e5f9cf3b7e3a45699a55d4"), looks := false }, kinds := [], alts := [], laidByText := true, laidKinds := [.widerDeep, .data], laidTests := true, laidLooks := .later }
def ActionOppositeCardSaid : Prop := Claim7.holds Tryd.pinned (.plain (OpenSpec.ofChange actionOppositeSpec)) actionOppositeCard

/-- THE SECOND FORM's CARD OF 'wharflaw23.ActionMatchesReference'. -/
def actionMatchesReferenceUptoCard : Claim7 := { stood := { row := actionMatchesReferenceUptoRow, standIns := [], harness := (true, "666c9b38e8c742f90efe6dfdb25de6caf6c90d1f97e5f9cf3b7e3a45699a55d4"), looks := false }, kinds := [], alts := [], laidByText := true, laidKinds := [.widerDeep, .data], laidTests := true, laidLooks := .later }
def ActionMatchesReferenceUptoCardSaid : Prop := Claim7.holds Tryd.pinned (.plain (OpenSpec.upto actionMatchesReferenceSpec)) actionMatchesReferenceUptoCard

/-- THE SECOND FORM's CARD OF 'wharflaw23.ActionPlays'. -/
def actionPlaysUptoCard : Claim7 := { stood := { row := actionPlaysUptoRow, standIns := [], harness := (true, "666c9b38e8c742f90efe6dfdb25de6caf6c90d1f97e5f9cf3b7e3a45699a55d4"), looks := false }, kinds := [], alts := [], laidByText := true, laidKinds := [.widerDeep, .data], laidTests := true, laidLooks := .later }
def ActionPlaysUptoCardSaid : Prop := Claim7.holds Tryd.pinned (.plain (OpenSpec.upto actionPlaysSpec)) actionPlaysUptoCard

/-- THE SECOND FORM's CARD OF 'wharflaw23.ActionCuts'. -/
def actionCutsUptoCard : Claim7 := { stood := { row := actionCutsUptoRow, standIns := [], harness := (true, "666c9b38e8c742f90efe6dfdb25de6caf6c90d1f97e5f9cf3b7e3a45699a55d4"), looks := false }, kinds := [], alts := [], laidByText := true, laidKinds := [.widerDeep, .data], laidTests := true, laidLooks := .later }
def ActionCutsUptoCardSaid : Prop := Claim7.holds Tryd.pinned (.plain (OpenSpec.upto actionCutsSpec)) actionCutsUptoCard

/-- THE SECOND FORM's CARD OF 'wharflaw23.ActionOpposite'. -/
def actionOppositeUptoCard : Claim7 := { stood := { row := actionOppositeUptoRow, standIns := [], harness := (true, "666c9b38e8c742f90efe6dfdb25de6caf6c90d1f97e5f9cf3b7e3a45699a55d4"), looks := false }, kinds := [], alts := [], laidByText := true, laidKinds := [.widerDeep, .data], laidTests := true, laidLooks := .later }
def ActionOppositeUptoCardSaid : Prop := Claim7.holds Tryd.pinned (.plain (OpenSpec.upto actionOppositeSpec)) actionOppositeUptoCard
end Rows
end Go.Proofs.YtjgcdjfeglhalaaDoor
