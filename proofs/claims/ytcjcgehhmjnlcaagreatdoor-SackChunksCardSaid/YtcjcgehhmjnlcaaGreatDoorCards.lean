/-
  DERIVED. GIVEN WITH THE SEED: THE CARDS: each row of YtcjcgehhmjnlcaaGreatDoorRows.lean that lists a variable, with what it lists TIED to the program's text (the seventh form; the later family's looks); each row that meets fmt, with fmt's text TOLD by the authors' own Lean function (tested against real Go, not proved from fmt's source: count such statements apart). THE CARD IS WHAT COUNTS. Prove the row's statement (the work); the ties are given (YtcjcgehhmjnlcaaGreatDoorTie.lean); close each card by the builder's one call (the guide's Derived/Test/ToyasCard.lean, 'card_holds'). Laid BY PROGRAM, IN A SANDBOX (cutbox-door.mjs). By AI agents, Wed Nov 11 2026. No macro, syntax, notation, axiom, sorry.
-/
import Derived.Test.YtcjcgehhmjnlcaaGreatDoorRows
import GoSem.ClaimSeven
namespace Go.Proofs.YtcjcgehhmjnlcaaGreatDoor
namespace Rows

/-- THE TIED CARD OF 'wharflaw16.ForwardCompares'. -/
def forwardComparesCard : Claim7 := { stood := { row := forwardComparesRow, standIns := [], harness := (true, "1beeadd4e3437c391bb6bde177c196d6af0ac440a4e5abb6191358b7d65eb30f"), looks := true }, kinds := [], alts := [], laidByText := true, laidKinds := [.handle, .widerDeep, .data], laidTests := true, laidLooks := .later }
def ForwardComparesCardSaid : Prop := Claim7.holds Tryz.pinned (.plain (OpenSpec.ofChange forwardComparesSpec)) forwardComparesCard

/-- THE TIED CARD OF 'wharflaw16.ForwardMost'. -/
def forwardMostCard : Claim7 := { stood := { row := forwardMostRow, standIns := [], harness := (true, "1beeadd4e3437c391bb6bde177c196d6af0ac440a4e5abb6191358b7d65eb30f"), looks := true }, kinds := [], alts := [], laidByText := true, laidKinds := [.handle, .widerDeep, .data], laidTests := true, laidLooks := .later }
def ForwardMostCardSaid : Prop := Claim7.holds Tryz.pinned (.plain (OpenSpec.ofChange forwardMostSpec)) forwardMostCard

/-- THE TIED CARD OF 'wharflaw14.SackMatchesReference'. -/
def sackMatchesReferenceCard : Claim7 := { stood := { row := sackMatchesReferenceRow, standIns := [], harness := (true, "1beeadd4e3437c391bb6bde177c196d6af0ac440a4e5abb6191358b7d65eb30f"), looks := true }, kinds := [], alts := [], laidByText := true, laidKinds := [.handle, .widerDeep, .data], laidTests := true, laidLooks := .later }
def SackMatchesReferenceCardSaid : Prop := Claim7.holds Tryz.pinned (.plain (OpenSpec.ofChange sackMatchesReferenceSpec)) sackMatchesReferenceCard

/-- THE TIED CARD OF 'wharflaw14.SackChunks'. -/
def sackChunksCard : Claim7 := { stood := { row := sackChunksRow, standIns := [], harness := (true, "1beeadd4e3437c391bb6bde177c196d6af0ac440a4e5abb6191358b7d65eb30f"), looks := true }, kinds := [], alts := [], laidByText := true, laidKinds := [.handle, .widerDeep, .data], laidTests := true, laidLooks := .later }
def SackChunksCardSaid : Prop := Claim7.holds Tryz.pinned (.plain (OpenSpec.ofChange sackChunksSpec)) sackChunksCard

/-- THE TIED CARD OF 'wharflaw14.SackCovers'. -/
def sackCoversCard : Claim7 := { stood := { row := sackCoversRow, standIns := [], harness := (true, "1beeadd4e3437c391bb6bde177c196d6af0ac440a4e5abb6191358b7d65eb30f"), looks := true }, kinds := [], alts := [], laidByText := true, laidKinds := [.handle, .widerDeep, .data], laidTests := true, laidLooks := .later }
def SackCoversCardSaid : Prop := Claim7.holds Tryz.pinned (.plain (OpenSpec.ofChange sackCoversSpec)) sackCoversCard

/-- THE TIED CARD OF 'wharflaw14.SackBuilds'. -/
def sackBuildsCard : Claim7 := { stood := { row := sackBuildsRow, standIns := [], harness := (true, "1beeadd4e3437c391bb6bde177c196d6af0ac440a4e5abb6191358b7d65eb30f"), looks := true }, kinds := [], alts := [], laidByText := true, laidKinds := [.handle, .widerDeep, .data], laidTests := true, laidLooks := .later }
def SackBuildsCardSaid : Prop := Claim7.holds Tryz.pinned (.plain (OpenSpec.ofChange sackBuildsSpec)) sackBuildsCard

/-- THE TIED CARD OF 'wharflaw14.SackTells'. -/
def sackTellsCard : Claim7 := { stood := { row := sackTellsRow, standIns := [], harness := (true, "1beeadd4e3437c391bb6bde177c196d6af0ac440a4e5abb6191358b7d65eb30f"), looks := true }, kinds := [], alts := [], laidByText := true, laidKinds := [.handle, .widerDeep, .data], laidTests := true, laidLooks := .later }
def SackTellsCardSaid : Prop := Claim7.holds Tryz.pinned (.plain (OpenSpec.ofChange sackTellsSpec)) sackTellsCard

/-- THE TIED CARD OF 'wharflaw16.ForwardMatchesReference'. -/
def forwardMatchesReferenceCard : Claim7 := { stood := { row := forwardMatchesReferenceRow, standIns := [], harness := (true, "1beeadd4e3437c391bb6bde177c196d6af0ac440a4e5abb6191358b7d65eb30f"), looks := true }, kinds := [], alts := [], laidByText := true, laidKinds := [.handle, .widerDeep, .data], laidTests := true, laidLooks := .later }
def ForwardMatchesReferenceCardSaid : Prop := Claim7.holds Tryz.pinned (.plain (OpenSpec.ofChange forwardMatchesReferenceSpec)) forwardMatchesReferenceCard

/-- THE TIED CARD OF 'wharflaw16.ForwardChunks'. -/
def forwardChunksCard : Claim7 := { stood := { row := forwardChunksRow, standIns := [], harness := (true, "1beeadd4e3437c391bb6bde177c196d6af0ac440a4e5abb6191358b7d65eb30f"), looks := true }, kinds := [], alts := [], laidByText := true, laidKinds := [.handle, .widerDeep, .data], laidTests := true, laidLooks := .later }
def ForwardChunksCardSaid : Prop := Claim7.holds Tryz.pinned (.plain (OpenSpec.ofChange forwardChunksSpec)) forwardChunksCard

/-- THE TIED CARD OF 'wharflaw16.ForwardMerges'. -/
def forwardMergesCard : Claim7 := { stood := { row := forwardMergesRow, standIns := [], harness := (true, "1beeadd4e3437c391bb6bde177c196d6af0ac440a4e5abb6191358b7d65eb30f"), looks := true }, kinds := [], alts := [], laidByText := true, laidKinds := [.handle, .widerDeep, .data], laidTests := true, laidLooks := .later }
def ForwardMergesCardSaid : Prop := Claim7.holds Tryz.pinned (.plain (OpenSpec.ofChange forwardMergesSpec)) forwardMergesCard

/-- THE SECOND FORM's CARD OF 'wharflaw16.ForwardCompares'. -/
def forwardComparesUptoCard : Claim7 := { stood := { row := forwardComparesUptoRow, standIns := [], harness := (true, "1beeadd4e3437c391bb6bde177c196d6af0ac440a4e5abb6191358b7d65eb30f"), looks := true }, kinds := [], alts := [], laidByText := true, laidKinds := [.handle, .widerDeep, .data], laidTests := true, laidLooks := .later }
def ForwardComparesUptoCardSaid : Prop := Claim7.holds Tryz.pinned (.plain (OpenSpec.upto forwardComparesSpec)) forwardComparesUptoCard

/-- THE SECOND FORM's CARD OF 'wharflaw16.ForwardMost'. -/
def forwardMostUptoCard : Claim7 := { stood := { row := forwardMostUptoRow, standIns := [], harness := (true, "1beeadd4e3437c391bb6bde177c196d6af0ac440a4e5abb6191358b7d65eb30f"), looks := true }, kinds := [], alts := [], laidByText := true, laidKinds := [.handle, .widerDeep, .data], laidTests := true, laidLooks := .later }
def ForwardMostUptoCardSaid : Prop := Claim7.holds Tryz.pinned (.plain (OpenSpec.upto forwardMostSpec)) forwardMostUptoCard

/-- THE SECOND FORM's CARD OF 'wharflaw14.SackMatchesReference'. -/
def sackMatchesReferenceUptoCard : Claim7 := { stood := { row := sackMatchesReferenceUptoRow, standIns := [], harness := (true, "1beeadd4e3437c391bb6bde177c196d6af0ac440a4e5abb6191358b7d65eb30f"), looks := true }, kinds := [], alts := [], laidByText := true, laidKinds := [.handle, .widerDeep, .data], laidTests := true, laidLooks := .later }
def SackMatchesReferenceUptoCardSaid : Prop := Claim7.holds Tryz.pinned (.plain (OpenSpec.upto sackMatchesReferenceSpec)) sackMatchesReferenceUptoCard

/-- THE SECOND FORM's CARD OF 'wharflaw14.SackChunks'. -/
def sackChunksUptoCard : Claim7 := { stood := { row := sackChunksUptoRow, standIns := [], harness := (true, "1beeadd4e3437c391bb6bde177c196d6af0ac440a4e5abb6191358b7d65eb30f"), looks := true }, kinds := [], alts := [], laidByText := true, laidKinds := [.handle, .widerDeep, .data], laidTests := true, laidLooks := .later }
def SackChunksUptoCardSaid : Prop := Claim7.holds Tryz.pinned (.plain (OpenSpec.upto sackChunksSpec)) sackChunksUptoCard

/-- THE SECOND FORM's CARD OF 'wharflaw14.SackCovers'. -/
def sackCoversUptoCard : Claim7 := { stood := { row := sackCoversUptoRow, standIns := [], harness := (true, "1beeadd4e3437c391bb6bde177c196d6af0ac440a4e5abb6191358b7d65eb30f"), looks := true }, kinds := [], alts := [], laidByText := true, laidKinds := [.handle, .widerDeep, .data], laidTests := true, laidLooks := .later }
def SackCoversUptoCardSaid : Prop := Claim7.holds Tryz.pinned (.plain (OpenSpec.upto sackCoversSpec)) sackCoversUptoCard

/-- THE SECOND FORM's CARD OF 'wharflaw14.SackBuilds'. -/
def sackBuildsUptoCard : Claim7 := { stood := { row := sackBuildsUptoRow, standIns := [], harness := (true, "1beeadd4e3437c391bb6bde177c196d6af0ac440a4e5abb6191358b7d65eb30f"), looks := true }, kinds := [], alts := [], laidByText := true, laidKinds := [.handle, .widerDeep, .data], laidTests := true, laidLooks := .later }
def SackBuildsUptoCardSaid : Prop := Claim7.holds Tryz.pinned (.plain (OpenSpec.upto sackBuildsSpec)) sackBuildsUptoCard

/-- THE SECOND FORM's CARD OF 'wharflaw14.SackTells'. -/
def sackTellsUptoCard : Claim7 := { stood := { row := sackTellsUptoRow, standIns := [], harness := (true, "1beeadd4e3437c391bb6bde177c196d6af0ac440a4e5abb6191358b7d65eb30f"), looks := true }, kinds := [], alts := [], laidByText := true, laidKinds := [.handle, .widerDeep, .data], laidTests := true, laidLooks := .later }
def SackTellsUptoCardSaid : Prop := Claim7.holds Tryz.pinned (.plain (OpenSpec.upto sackTellsSpec)) sackTellsUptoCard

/-- THE SECOND FORM's CARD OF 'wharflaw16.ForwardMatchesReference'. -/
def forwardMatchesReferenceUptoCard : Claim7 := { stood := { row := forwardMatchesReferenceUptoRow, standIns := [], harness := (true, "1beeadd4e3437c391bb6bde177c196d6af0ac440a4e5abb6191358b7d65eb30f"), looks := true }, kinds := [], alts := [], laidByText := true, laidKinds := [.handle, .widerDeep, .data], laidTests := true, laidLooks := .later }
def ForwardMatchesReferenceUptoCardSaid : Prop := Claim7.holds Tryz.pinned (.plain (OpenSpec.upto forwardMatchesReferenceSpec)) forwardMatchesReferenceUptoCard

/-- THE SECOND FORM's CARD OF 'wharflaw16.ForwardChunks'. -/
def forwardChunksUptoCard : Claim7 := { stood := { row := forwardChunksUptoRow, standIns := [], harness := (true, "1beeadd4e3437c391bb6bde177c196d6af0ac440a4e5abb6191358b7d65eb30f"), looks := true }, kinds := [], alts := [], laidByText := true, laidKinds := [.handle, .widerDeep, .data], laidTests := true, laidLooks := .later }
def ForwardChunksUptoCardSaid : Prop := Claim7.holds Tryz.pinned (.plain (OpenSpec.upto forwardChunksSpec)) forwardChunksUptoCard

/-- THE SECOND FORM's CARD OF 'wharflaw16.ForwardMerges'. -/
def forwardMergesUptoCard : Claim7 := { stood := { row := forwardMergesUptoRow, standIns := [], harness := (true, "1beeadd4e3437c391bb6bde177c196d6af0ac440a4e5abb6191358b7d65eb30f"), looks := true }, kinds := [], alts := [], laidByText := true, laidKinds := [.handle, .widerDeep, .data], laidTests := true, laidLooks := .later }
def ForwardMergesUptoCardSaid : Prop := Claim7.holds Tryz.pinned (.plain (OpenSpec.upto forwardMergesSpec)) forwardMergesUptoCard
end Rows
end Go.Proofs.YtcjcgehhmjnlcaaGreatDoor
