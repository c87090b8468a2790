/-
  DERIVED. GIVEN WITH THE SEED: THE CARDS: each row of YtdbpglhdicmhhaaGreatDoorRows.lean that lists a variable, with what it lists TIED to the program's text (the seventh form; the later family's looks); each row that meets fmt, with fmt's text TOLD by the authors' own Lean function (tested against real Go, not proved from fmt's source: count such statements apart). THE CARD IS WHAT COUNTS. Prove the row's statement (the work); the ties are given (YtdbpglhdicmhhaaGreatDoorTie.lean); close each card by the builder's one call (the guide's Derived/Test/ToyasCard.lean, 'card_holds'). Laid BY PROGRAM, IN A SANDBOX (cutbox-door.mjs). By AI agents, Wed Nov 11 2026. No macro, syntax, notation, axiom, sorry.
-/
import Derived.Test.YtdbpglhdicmhhaaGreatDoorRows
import GoSem.ClaimSeven
namespace Go.Proofs.YtdbpglhdicmhhaaGreatDoor
namespace Rows

/-- THE TIED CARD OF 'rotalaw07.ListingReads'. -/
def listingReadsCard : Claim7 := { stood := { row := listingReadsRow, standIns := [], harness := (true, "53799430c1873a7ae69fccf0bb56721d1fbeca6ce51818795981f3959aa5b904"), looks := true }, kinds := [], alts := [], laidByText := true, laidKinds := [.data, .data, .data, .data, .sentinel, .sentinel, .widerDeep, .pinned], laidTests := true, laidLooks := .later }
def ListingReadsCardSaid : Prop := Claim7.holds Tryz.pinned (.plain (OpenSpec.ofChange listingReadsSpec)) listingReadsCard

/-- THE TIED CARD OF 'rotalaw07.ListingLines'. -/
def listingLinesCard : Claim7 := { stood := { row := listingLinesRow, standIns := [], harness := (true, "53799430c1873a7ae69fccf0bb56721d1fbeca6ce51818795981f3959aa5b904"), looks := true }, kinds := [], alts := [], laidByText := true, laidKinds := [.data, .data, .data, .data, .sentinel, .sentinel, .widerDeep, .pinned], laidTests := true, laidLooks := .later }
def ListingLinesCardSaid : Prop := Claim7.holds Tryz.pinned (.plain (OpenSpec.ofChange listingLinesSpec)) listingLinesCard

/-- THE TIED CARD OF 'rotalaw07.ListingPrints'. -/
def listingPrintsCard : Claim7 := { stood := { row := listingPrintsRow, standIns := [], harness := (true, "53799430c1873a7ae69fccf0bb56721d1fbeca6ce51818795981f3959aa5b904"), looks := true }, kinds := [], alts := [], laidByText := true, laidKinds := [.data, .data, .data, .data, .sentinel, .sentinel, .widerDeep, .pinned], laidTests := true, laidLooks := .later }
def ListingPrintsCardSaid : Prop := Claim7.holds Tryz.pinned (.plain (OpenSpec.ofChange listingPrintsSpec)) listingPrintsCard

/-- THE TIED CARD OF 'rotalaw07.ListingBack'. -/
def listingBackCard : Claim7 := { stood := { row := listingBackRow, standIns := [], harness := (true, "53799430c1873a7ae69fccf0bb56721d1fbeca6ce51818795981f3959aa5b904"), looks := true }, kinds := [], alts := [], laidByText := true, laidKinds := [.data, .data, .data, .data, .sentinel, .sentinel, .widerDeep, .pinned], laidTests := true, laidLooks := .later }
def ListingBackCardSaid : Prop := Claim7.holds Tryz.pinned (.plain (OpenSpec.ofChange listingBackSpec)) listingBackCard

/-- THE TIED CARD OF 'rotalaw07.ListingAgain'. -/
def listingAgainCard : Claim7 := { stood := { row := listingAgainRow, standIns := [], harness := (true, "53799430c1873a7ae69fccf0bb56721d1fbeca6ce51818795981f3959aa5b904"), looks := true }, kinds := [], alts := [], laidByText := true, laidKinds := [.data, .data, .data, .data, .sentinel, .sentinel, .widerDeep, .pinned], laidTests := true, laidLooks := .later }
def ListingAgainCardSaid : Prop := Claim7.holds Tryz.pinned (.plain (OpenSpec.ofChange listingAgainSpec)) listingAgainCard

/-- THE TIED CARD OF 'rotalaw07.ListingOwn'. -/
def listingOwnCard : Claim7 := { stood := { row := listingOwnRow, standIns := [], harness := (true, "53799430c1873a7ae69fccf0bb56721d1fbeca6ce51818795981f3959aa5b904"), looks := true }, kinds := [], alts := [], laidByText := true, laidKinds := [.data, .data, .data, .data, .sentinel, .sentinel, .widerDeep, .pinned], laidTests := true, laidLooks := .later }
def ListingOwnCardSaid : Prop := Claim7.holds Tryz.pinned (.plain (OpenSpec.ofChange listingOwnSpec)) listingOwnCard

/-- THE SECOND FORM's CARD OF 'rotalaw07.ListingReads'. -/
def listingReadsUptoCard : Claim7 := { stood := { row := listingReadsUptoRow, standIns := [], harness := (true, "53799430c1873a7ae69fccf0bb56721d1fbeca6ce51818795981f3959aa5b904"), looks := true }, kinds := [], alts := [], laidByText := true, laidKinds := [.data, .data, .data, .data, .sentinel, .sentinel, .widerDeep, .pinned], laidTests := true, laidLooks := .later }
def ListingReadsUptoCardSaid : Prop := Claim7.holds Tryz.pinned (.plain (OpenSpec.upto listingReadsSpec)) listingReadsUptoCard

/-- THE SECOND FORM's CARD OF 'rotalaw07.ListingLines'. -/
def listingLinesUptoCard : Claim7 := { stood := { row := listingLinesUptoRow, standIns := [], harness := (true, "53799430c1873a7ae69fccf0bb56721d1fbeca6ce51818795981f3959aa5b904"), looks := true }, kinds := [], alts := [], laidByText := true, laidKinds := [.data, .data, .data, .data, .sentinel, .sentinel, .widerDeep, .pinned], laidTests := true, laidLooks := .later }
def ListingLinesUptoCardSaid : Prop := Claim7.holds Tryz.pinned (.plain (OpenSpec.upto listingLinesSpec)) listingLinesUptoCard

/-- THE SECOND FORM's CARD OF 'rotalaw07.ListingPrints'. -/
def listingPrintsUptoCard : Claim7 := { stood := { row := listingPrintsUptoRow, standIns := [], harness := (true, "53799430c1873a7ae69fccf0bb56721d1fbeca6ce51818795981f3959aa5b904"), looks := true }, kinds := [], alts := [], laidByText := true, laidKinds := [.data, .data, .data, .data, .sentinel, .sentinel, .widerDeep, .pinned], laidTests := true, laidLooks := .later }
def ListingPrintsUptoCardSaid : Prop := Claim7.holds Tryz.pinned (.plain (OpenSpec.upto listingPrintsSpec)) listingPrintsUptoCard

/-- THE SECOND FORM's CARD OF 'rotalaw07.ListingBack'. -/
def listingBackUptoCard : Claim7 := { stood := { row := listingBackUptoRow, standIns := [], harness := (true, "53799430c1873a7ae69fccf0bb56721d1fbeca6ce51818795981f3959aa5b904"), looks := true }, kinds := [], alts := [], laidByText := true, laidKinds := [.data, .data, .data, .data, .sentinel, .sentinel, .widerDeep, .pinned], laidTests := true, laidLooks := .later }
def ListingBackUptoCardSaid : Prop := Claim7.holds Tryz.pinned (.plain (OpenSpec.upto listingBackSpec)) listingBackUptoCard

/-- THE SECOND FORM's CARD OF 'rotalaw07.ListingAgain'. -/
def listingAgainUptoCard : Claim7 := { stood := { row := listingAgainUptoRow, standIns := [], harness := (true, "53799430c1873a7ae69fccf0bb56721d1fbeca6ce51818795981f3959aa5b904"), looks := true }, kinds := [], alts := [], laidByText := true, laidKinds := [.data, .data, .data, .data, .sentinel, .sentinel, .widerDeep, .pinned], laidTests := true, laidLooks := .later }
def ListingAgainUptoCardSaid : Prop := Claim7.holds Tryz.pinned (.plain (OpenSpec.upto listingAgainSpec)) listingAgainUptoCard

/-- THE SECOND FORM's CARD OF 'rotalaw07.ListingOwn'. -/
def listingOwnUptoCard : Claim7 := { stood := { row := listingOwnUptoRow, standIns := [], harness := (true, "53799430c1873a7ae69fccf0bb56721d1fbeca6ce51818795981f3959aa5b904"), looks := true }, kinds := [], alts := [], laidByText := true, laidKinds := [.data, .data, .data, .data, .sentinel, .sentinel, .widerDeep, .pinned], laidTests := true, laidLooks := .later }
def ListingOwnUptoCardSaid : Prop := Claim7.holds Tryz.pinned (.plain (OpenSpec.upto listingOwnSpec)) listingOwnUptoCard
end Rows
end Go.Proofs.YtdbpglhdicmhhaaGreatDoor
