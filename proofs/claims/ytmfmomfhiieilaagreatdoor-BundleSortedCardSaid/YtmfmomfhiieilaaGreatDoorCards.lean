/-
  DERIVED. GIVEN WITH THE SEED: THE CARDS: each row of YtmfmomfhiieilaaGreatDoorRows.lean that lists a variable, with what it lists TIED to the program's text (the seventh form; the later family's looks); each row that meets fmt, with fmt's text TOLD by the authors' own Lean function (tested against real Go, not proved from fmt's source: count such statements apart). THE CARD IS WHAT COUNTS. Prove the row's statement (the work); the ties are given (YtmfmomfhiieilaaGreatDoorTie.lean); close each card by the builder's one call (the guide's Derived/Test/ToyasCard.lean, 'card_holds'). Laid BY PROGRAM, IN A SANDBOX (cutbox-door.mjs). By AI agents, Wed Nov 11 2026. No macro, syntax, notation, axiom, sorry.
-/
import Derived.Test.YtmfmomfhiieilaaGreatDoorRows
import GoSem.ClaimSeven
namespace Go.Proofs.YtmfmomfhiieilaaGreatDoor
namespace Rows

/-- THE TIED CARD OF 'wharflaw26.BundleGreedy'. -/
def bundleGreedyCard : Claim7 := { stood := { row := bundleGreedyRow, standIns := [], harness := (true, "c96191d3768fbd9be8950e48a4356ba0cdd5be077f5ca1588c31babdc37a16f6"), looks := true }, kinds := [], alts := [], laidByText := true, laidKinds := [.handle, .widerDeep, .data, .widerDeep], laidTests := true, laidLooks := .later }
def BundleGreedyCardSaid : Prop := Claim7.holds Tryz.pinned (.plain (OpenSpec.ofChange bundleGreedySpec)) bundleGreedyCard

/-- THE TIED CARD OF 'wharflaw26.BundleLarger'. -/
def bundleLargerCard : Claim7 := { stood := { row := bundleLargerRow, standIns := [], harness := (true, "c96191d3768fbd9be8950e48a4356ba0cdd5be077f5ca1588c31babdc37a16f6"), looks := true }, kinds := [], alts := [], laidByText := true, laidKinds := [.handle, .widerDeep, .data, .widerDeep], laidTests := true, laidLooks := .later }
def BundleLargerCardSaid : Prop := Claim7.holds Tryz.pinned (.plain (OpenSpec.ofChange bundleLargerSpec)) bundleLargerCard

/-- THE TIED CARD OF 'wharflaw26.BundleMatchesReference'. -/
def bundleMatchesReferenceCard : Claim7 := { stood := { row := bundleMatchesReferenceRow, standIns := [], harness := (true, "c96191d3768fbd9be8950e48a4356ba0cdd5be077f5ca1588c31babdc37a16f6"), looks := true }, kinds := [], alts := [], laidByText := true, laidKinds := [.handle, .widerDeep, .data, .widerDeep], laidTests := true, laidLooks := .later }
def BundleMatchesReferenceCardSaid : Prop := Claim7.holds Tryz.pinned (.plain (OpenSpec.ofChange bundleMatchesReferenceSpec)) bundleMatchesReferenceCard

/-- THE TIED CARD OF 'wharflaw26.BundleSorted'. -/
def bundleSortedCard : Claim7 := { stood := { row := bundleSortedRow, standIns := [], harness := (true, "c96191d3768fbd9be8950e48a4356ba0cdd5be077f5ca1588c31babdc37a16f6"), looks := true }, kinds := [], alts := [], laidByText := true, laidKinds := [.handle, .widerDeep, .data, .widerDeep], laidTests := true, laidLooks := .later }
def BundleSortedCardSaid : Prop := Claim7.holds Tryz.pinned (.plain (OpenSpec.ofChange bundleSortedSpec)) bundleSortedCard

/-- THE SECOND FORM's CARD OF 'wharflaw26.BundleGreedy'. -/
def bundleGreedyUptoCard : Claim7 := { stood := { row := bundleGreedyUptoRow, standIns := [], harness := (true, "c96191d3768fbd9be8950e48a4356ba0cdd5be077f5ca1588c31babdc37a16f6"), looks := true }, kinds := [], alts := [], laidByText := true, laidKinds := [.handle, .widerDeep, .data, .widerDeep], laidTests := true, laidLooks := .later }
def BundleGreedyUptoCardSaid : Prop := Claim7.holds Tryz.pinned (.plain (OpenSpec.upto bundleGreedySpec)) bundleGreedyUptoCard

/-- THE SECOND FORM's CARD OF 'wharflaw26.BundleLarger'. -/
def bundleLargerUptoCard : Claim7 := { stood := { row := bundleLargerUptoRow, standIns := [], harness := (true, "c96191d3768fbd9be8950e48a4356ba0cdd5be077f5ca1588c31babdc37a16f6"), looks := true }, kinds := [], alts := [], laidByText := true, laidKinds := [.handle, .widerDeep, .data, .widerDeep], laidTests := true, laidLooks := .later }
def BundleLargerUptoCardSaid : Prop := Claim7.holds Tryz.pinned (.plain (OpenSpec.upto bundleLargerSpec)) bundleLargerUptoCard

/-- THE SECOND FORM's CARD OF 'wharflaw26.BundleMatchesReference'. -/
def bundleMatchesReferenceUptoCard : Claim7 := { stood := { row := bundleMatchesReferenceUptoRow, standIns := [], harness := (true, "c96191d3768fbd9be8950e48a4356ba0cdd5be077f5ca1588c31babdc37a16f6"), looks := true }, kinds := [], alts := [], laidByText := true, laidKinds := [.handle, .widerDeep, .data, .widerDeep], laidTests := true, laidLooks := .later }
def BundleMatchesReferenceUptoCardSaid : Prop := Claim7.holds Tryz.pinned (.plain (OpenSpec.upto bundleMatchesReferenceSpec)) bundleMatchesReferenceUptoCard

/-- THE SECOND FORM's CARD OF 'wharflaw26.BundleSorted'. -/
def bundleSortedUptoCard : Claim7 := { stood := { row := bundleSortedUptoRow, standIns := [], harness := (true, "c96191d3768fbd9be8950e48a4356ba0cdd5be077f5ca1588c31babdc37a16f6"), looks := true }, kinds := [], alts := [], laidByText := true, laidKinds := [.handle, .widerDeep, .data, .widerDeep], laidTests := true, laidLooks := .later }
def BundleSortedUptoCardSaid : Prop := Claim7.holds Tryz.pinned (.plain (OpenSpec.upto bundleSortedSpec)) bundleSortedUptoCard
end Rows
end Go.Proofs.YtmfmomfhiieilaaGreatDoor
