/-
  DERIVED. GIVEN WITH THE SEED: THE CARDS: each row of YtphbepddhhdhmaaDoorRows.lean that lists a variable, with what it lists TIED to the program's text (the seventh form; the later family's looks); each row that meets fmt, with fmt's text TOLD by the authors' own Lean function (tested against real Go, not proved from fmt's source: count such statements apart). THE CARD IS WHAT COUNTS. Prove the row's statement (the work); the ties are given (YtphbepddhhdhmaaDoorTie.lean); close each card by the builder's one call (the guide's Derived/Test/ToyasCard.lean, 'card_holds'). Laid BY PROGRAM, IN A SANDBOX (cutbox-door.mjs). By AI agents, Wed Nov 11 2026. No macro, syntax, notation, axiom, sorry.
-/
import Derived.Test.YtphbepddhhdhmaaDoorRows
import GoSem.ClaimSeven
namespace Go.Proofs.YtphbepddhhdhmaaDoor
namespace Rows

/-- THE TIED CARD OF 'rotalaw25.TraceChecks'. -/
def traceChecksCard : Claim7 := { stood := { row := traceChecksRow, standIns := [], harness := (true, "8df9d5b334030159f61ce03872f7c65781b2ff8dc3e60644e71d7e5583e6f8e3"), looks := true }, kinds := [], alts := [], laidByText := true, laidKinds := [.data], laidTests := true, laidLooks := .later }
def TraceChecksCardSaid : Prop := Claim7.holds Tryd.pinned (.plain (OpenSpec.ofChange traceChecksSpec)) traceChecksCard

/-- THE TIED CARD OF 'rotalaw25.TraceWhole'. -/
def traceWholeCard : Claim7 := { stood := { row := traceWholeRow, standIns := [], harness := (true, "8df9d5b334030159f61ce03872f7c65781b2ff8dc3e60644e71d7e5583e6f8e3"), looks := true }, kinds := [], alts := [], laidByText := true, laidKinds := [.data], laidTests := true, laidLooks := .later }
def TraceWholeCardSaid : Prop := Claim7.holds Tryd.pinned (.plain (OpenSpec.ofChange traceWholeSpec)) traceWholeCard

/-- THE TIED CARD OF 'rotalaw25.TraceOwn'. -/
def traceOwnCard : Claim7 := { stood := { row := traceOwnRow, standIns := [], harness := (true, "8df9d5b334030159f61ce03872f7c65781b2ff8dc3e60644e71d7e5583e6f8e3"), looks := true }, kinds := [], alts := [], laidByText := true, laidKinds := [.data], laidTests := true, laidLooks := .later }
def TraceOwnCardSaid : Prop := Claim7.holds Tryd.pinned (.plain (OpenSpec.ofChange traceOwnSpec)) traceOwnCard

/-- THE TIED CARD OF 'rotalaw25.TraceParts'. -/
def tracePartsCard : Claim7 := { stood := { row := tracePartsRow, standIns := [], harness := (true, "8df9d5b334030159f61ce03872f7c65781b2ff8dc3e60644e71d7e5583e6f8e3"), looks := true }, kinds := [], alts := [], laidByText := true, laidKinds := [.data], laidTests := true, laidLooks := .later }
def TracePartsCardSaid : Prop := Claim7.holds Tryd.pinned (.plain (OpenSpec.ofChange tracePartsSpec)) tracePartsCard

/-- THE TIED CARD OF 'rotalaw25.TracePrints'. -/
def tracePrintsCard : Claim7 := { stood := { row := tracePrintsRow, standIns := [], harness := (true, "8df9d5b334030159f61ce03872f7c65781b2ff8dc3e60644e71d7e5583e6f8e3"), looks := true }, kinds := [], alts := [], laidByText := true, laidKinds := [.data, .data, .data, .data], laidTests := true, laidLooks := .later }
def TracePrintsCardSaid : Prop := Claim7.holds Tryd.pinned (.plain (OpenSpec.ofChange tracePrintsSpec)) tracePrintsCard

/-- THE TIED CARD OF 'rotalaw25.TraceDigests'. -/
def traceDigestsCard : Claim7 := { stood := { row := traceDigestsRow, standIns := [], harness := (true, "8df9d5b334030159f61ce03872f7c65781b2ff8dc3e60644e71d7e5583e6f8e3"), looks := true }, kinds := [], alts := [], laidByText := true, laidKinds := [.data, .data, .data, .data], laidTests := true, laidLooks := .later }
def TraceDigestsCardSaid : Prop := Claim7.holds Tryd.pinned (.plain (OpenSpec.ofChange traceDigestsSpec)) traceDigestsCard

/-- THE TIED CARD OF 'rotalaw25.TraceReads'. -/
def traceReadsCard : Claim7 := { stood := { row := traceReadsRow, standIns := [], harness := (true, "8df9d5b334030159f61ce03872f7c65781b2ff8dc3e60644e71d7e5583e6f8e3"), looks := true }, kinds := [], alts := [], laidByText := true, laidKinds := [.data, .data, .data, .data, .sentinel, .sentinel, .data, .pinned], laidTests := true, laidLooks := .later }
def TraceReadsCardSaid : Prop := Claim7.holds Tryd.pinned (.plain (OpenSpec.ofChange traceReadsSpec)) traceReadsCard

/-- THE TIED CARD OF 'rotalaw25.TraceBack'. -/
def traceBackCard : Claim7 := { stood := { row := traceBackRow, standIns := [], harness := (true, "8df9d5b334030159f61ce03872f7c65781b2ff8dc3e60644e71d7e5583e6f8e3"), looks := true }, kinds := [], alts := [], laidByText := true, laidKinds := [.data, .data, .data, .data, .sentinel, .sentinel, .data, .pinned], laidTests := true, laidLooks := .later }
def TraceBackCardSaid : Prop := Claim7.holds Tryd.pinned (.plain (OpenSpec.ofChange traceBackSpec)) traceBackCard

/-- THE TIED CARD OF 'rotalaw25.TraceAgain'. -/
def traceAgainCard : Claim7 := { stood := { row := traceAgainRow, standIns := [], harness := (true, "8df9d5b334030159f61ce03872f7c65781b2ff8dc3e60644e71d7e5583e6f8e3"), looks := true }, kinds := [], alts := [], laidByText := true, laidKinds := [.data, .data, .data, .data, .sentinel, .sentinel, .data, .pinned], laidTests := true, laidLooks := .later }
def TraceAgainCardSaid : Prop := Claim7.holds Tryd.pinned (.plain (OpenSpec.ofChange traceAgainSpec)) traceAgainCard

/-- THE SECOND FORM's CARD OF 'rotalaw25.TraceChecks'. -/
def traceChecksUptoCard : Claim7 := { stood := { row := traceChecksUptoRow, standIns := [], harness := (true, "8df9d5b334030159f61ce03872f7c65781b2ff8dc3e60644e71d7e5583e6f8e3"), looks := true }, kinds := [], alts := [], laidByText := true, laidKinds := [.data], laidTests := true, laidLooks := .later }
def TraceChecksUptoCardSaid : Prop := Claim7.holds Tryd.pinned (.plain (OpenSpec.upto traceChecksSpec)) traceChecksUptoCard

/-- THE SECOND FORM's CARD OF 'rotalaw25.TraceWhole'. -/
def traceWholeUptoCard : Claim7 := { stood := { row := traceWholeUptoRow, standIns := [], harness := (true, "8df9d5b334030159f61ce03872f7c65781b2ff8dc3e60644e71d7e5583e6f8e3"), looks := true }, kinds := [], alts := [], laidByText := true, laidKinds := [.data], laidTests := true, laidLooks := .later }
def TraceWholeUptoCardSaid : Prop := Claim7.holds Tryd.pinned (.plain (OpenSpec.upto traceWholeSpec)) traceWholeUptoCard

/-- THE SECOND FORM's CARD OF 'rotalaw25.TraceOwn'. -/
def traceOwnUptoCard : Claim7 := { stood := { row := traceOwnUptoRow, standIns := [], harness := (true, "8df9d5b334030159f61ce03872f7c65781b2ff8dc3e60644e71d7e5583e6f8e3"), looks := true }, kinds := [], alts := [], laidByText := true, laidKinds := [.data], laidTests := true, laidLooks := .later }
def TraceOwnUptoCardSaid : Prop := Claim7.holds Tryd.pinned (.plain (OpenSpec.upto traceOwnSpec)) traceOwnUptoCard

/-- THE SECOND FORM's CARD OF 'rotalaw25.TraceParts'. -/
def tracePartsUptoCard : Claim7 := { stood := { row := tracePartsUptoRow, standIns := [], harness := (true, "8df9d5b334030159f61ce03872f7c65781b2ff8dc3e60644e71d7e5583e6f8e3"), looks := true }, kinds := [], alts := [], laidByText := true, laidKinds := [.data], laidTests := true, laidLooks := .later }
def TracePartsUptoCardSaid : Prop := Claim7.holds Tryd.pinned (.plain (OpenSpec.upto tracePartsSpec)) tracePartsUptoCard

/-- THE SECOND FORM's CARD OF 'rotalaw25.TracePrints'. -/
def tracePrintsUptoCard : Claim7 := { stood := { row := tracePrintsUptoRow, standIns := [], harness := (true, "8df9d5b334030159f61ce03872f7c65781b2ff8dc3e60644e71d7e5583e6f8e3"), looks := true }, kinds := [], alts := [], laidByText := true, laidKinds := [.data, .data, .data, .data], laidTests := true, laidLooks := .later }
def TracePrintsUptoCardSaid : Prop := Claim7.holds Tryd.pinned (.plain (OpenSpec.upto tracePrintsSpec)) tracePrintsUptoCard

/-- THE SECOND FORM's CARD OF 'rotalaw25.TraceDigests'. -/
def traceDigestsUptoCard : Claim7 := { stood := { row := traceDigestsUptoRow, standIns := [], harness := (true, "8df9d5b334030159f61ce03872f7c65781b2ff8dc3e60644e71d7e5583e6f8e3"), looks := true }, kinds := [], alts := [], laidByText := true, laidKinds := [.data, .data, .data, .data], laidTests := true, laidLooks := .later }
def TraceDigestsUptoCardSaid : Prop := Claim7.holds Tryd.pinned (.plain (OpenSpec.upto traceDigestsSpec)) traceDigestsUptoCard

/-- THE SECOND FORM's CARD OF 'rotalaw25.TraceReads'. -/
def traceReadsUptoCard : Claim7 := { stood := { row := traceReadsUptoRow, standIns := [], harness := (true, "8df9d5b334030159f61ce03872f7c65781b2ff8dc3e60644e71d7e5583e6f8e3"), looks := true }, kinds := [], alts := [], laidByText := true, laidKinds := [.data, .data, .data, .data, .sentinel, .sentinel, .data, .pinned], laidTests := true, laidLooks := .later }
def TraceReadsUptoCardSaid : Prop := Claim7.holds Tryd.pinned (.plain (OpenSpec.upto traceReadsSpec)) traceReadsUptoCard

/-- THE SECOND FORM's CARD OF 'rotalaw25.TraceBack'. -/
def traceBackUptoCard : Claim7 := { stood := { row := traceBackUptoRow, standIns := [], harness := (true, "8df9d5b334030159f61ce03872f7c65781b2ff8dc3e60644e71d7e5583e6f8e3"), looks := true }, kinds := [], alts := [], laidByText := true, laidKinds := [.data, .data, .data, .data, .sentinel, .sentinel, .data, .pinned], laidTests := true, laidLooks := .later }
def TraceBackUptoCardSaid : Prop := Claim7.holds Tryd.pinned (.plain (OpenSpec.upto traceBackSpec)) traceBackUptoCard

/-- THE SECOND FORM's CARD OF 'rotalaw25.TraceAgain'. -/
def traceAgainUptoCard : Claim7 := { stood := { row := traceAgainUptoRow, standIns := [], harness := (true, "8df9d5b334030159f61ce03872f7c65781b2ff8dc3e60644e71d7e5583e6f8e3"), looks := true }, kinds := [], alts := [], laidByText := true, laidKinds := [.data, .data, .data, .data, .sentinel, .sentinel, .data, .pinned], laidTests := true, laidLooks := .later }
def TraceAgainUptoCardSaid : Prop := Claim7.holds Tryd.pinned (.plain (OpenSpec.upto traceAgainSpec)) traceAgainUptoCard
end Rows
end Go.Proofs.YtphbepddhhdhmaaDoor
