/-
  DERIVED. GIVEN WITH THE SEED: THE CARDS: each row of YtonnlkpmfmknlaaDoorRows.lean that lists a variable, with what it lists TIED to the program's text (the seventh form; the later family's looks); each row that meets fmt, with fmt's text TOLD by the authors' own Lean function (tested against real Go, not proved from fmt's source: count such statements apart). THE CARD IS WHAT COUNTS. Prove the row's statement (the work); the ties are given (YtonnlkpmfmknlaaDoorTie.lean); close each card by the builder's one call (the guide's Derived/Test/ToyasCard.lean, 'card_holds'). Laid BY PROGRAM, IN A SANDBOX (cutbox-door.mjs). By AI agents, Wed Nov 11 2026. No macro, syntax, notation, axiom, sorry.
-/
import Derived.Test.YtonnlkpmfmknlaaDoorRows
import GoSem.ClaimSeven
namespace Go.Proofs.YtonnlkpmfmknlaaDoor
namespace Rows

/-- THE TIED CARD OF 'rotalaw19.ScriptReads'. -/
def scriptReadsCard : Claim7 := { stood := { row := scriptReadsRow, standIns := [], harness := (true, "ab9f09eead9cb82bec5caa4d11f82baf4e91613d2cb5a7de5cd04e757da53264"), looks := true }, kinds := [], alts := [], laidByText := true, laidKinds := [.data, .data, .data, .data, .sentinel, .sentinel, .pinned], laidTests := true, laidLooks := .later }
def ScriptReadsCardSaid : Prop := Claim7.holds Tryd.pinned (.plain (OpenSpec.ofChange scriptReadsSpec)) scriptReadsCard

/-- THE TIED CARD OF 'rotalaw19.ScriptDraws'. -/
def scriptDrawsCard : Claim7 := { stood := { row := scriptDrawsRow, standIns := [], harness := (true, "ab9f09eead9cb82bec5caa4d11f82baf4e91613d2cb5a7de5cd04e757da53264"), looks := true }, kinds := [], alts := [], laidByText := true, laidKinds := [.data, .data, .data, .data, .sentinel, .sentinel, .pinned], laidTests := true, laidLooks := .later }
def ScriptDrawsCardSaid : Prop := Claim7.holds Tryd.pinned (.plain (OpenSpec.ofChange scriptDrawsSpec)) scriptDrawsCard

/-- THE TIED CARD OF 'rotalaw19.ScriptOwn'. -/
def scriptOwnCard : Claim7 := { stood := { row := scriptOwnRow, standIns := [], harness := (true, "ab9f09eead9cb82bec5caa4d11f82baf4e91613d2cb5a7de5cd04e757da53264"), looks := true }, kinds := [], alts := [], laidByText := true, laidKinds := [.data, .data, .data, .data, .sentinel, .sentinel, .pinned], laidTests := true, laidLooks := .later }
def ScriptOwnCardSaid : Prop := Claim7.holds Tryd.pinned (.plain (OpenSpec.ofChange scriptOwnSpec)) scriptOwnCard

/-- THE TIED CARD OF 'rotalaw19.ScriptPrints'. -/
def scriptPrintsCard : Claim7 := { stood := { row := scriptPrintsRow, standIns := [], harness := (true, "ab9f09eead9cb82bec5caa4d11f82baf4e91613d2cb5a7de5cd04e757da53264"), looks := true }, kinds := [], alts := [], laidByText := true, laidKinds := [.data, .data, .data, .data, .sentinel, .sentinel, .pinned], laidTests := true, laidLooks := .later }
def ScriptPrintsCardSaid : Prop := Claim7.holds Tryd.pinned (.plain (OpenSpec.ofChange scriptPrintsSpec)) scriptPrintsCard

/-- THE TIED CARD OF 'rotalaw19.ScriptBack'. -/
def scriptBackCard : Claim7 := { stood := { row := scriptBackRow, standIns := [], harness := (true, "ab9f09eead9cb82bec5caa4d11f82baf4e91613d2cb5a7de5cd04e757da53264"), looks := true }, kinds := [], alts := [], laidByText := true, laidKinds := [.data, .data, .data, .data, .sentinel, .sentinel, .pinned], laidTests := true, laidLooks := .later }
def ScriptBackCardSaid : Prop := Claim7.holds Tryd.pinned (.plain (OpenSpec.ofChange scriptBackSpec)) scriptBackCard

/-- THE TIED CARD OF 'rotalaw19.ScriptViews'. -/
def scriptViewsCard : Claim7 := { stood := { row := scriptViewsRow, standIns := [], harness := (true, "ab9f09eead9cb82bec5caa4d11f82baf4e91613d2cb5a7de5cd04e757da53264"), looks := true }, kinds := [], alts := [], laidByText := true, laidKinds := [.data, .data, .data, .data, .sentinel, .sentinel, .pinned], laidTests := true, laidLooks := .later }
def ScriptViewsCardSaid : Prop := Claim7.holds Tryd.pinned (.plain (OpenSpec.ofChange scriptViewsSpec)) scriptViewsCard

/-- THE TIED CARD OF 'rotalaw19.ScriptAgrees'. -/
def scriptAgreesCard : Claim7 := { stood := { row := scriptAgreesRow, standIns := [], harness := (true, "ab9f09eead9cb82bec5caa4d11f82baf4e91613d2cb5a7de5cd04e757da53264"), looks := true }, kinds := [], alts := [], laidByText := true, laidKinds := [.data, .data, .data, .data, .sentinel, .sentinel, .pinned], laidTests := true, laidLooks := .later }
def ScriptAgreesCardSaid : Prop := Claim7.holds Tryd.pinned (.plain (OpenSpec.ofChange scriptAgreesSpec)) scriptAgreesCard

/-- THE SECOND FORM's CARD OF 'rotalaw19.ScriptReads'. -/
def scriptReadsUptoCard : Claim7 := { stood := { row := scriptReadsUptoRow, standIns := [], harness := (true, "ab9f09eead9cb82bec5caa4d11f82baf4e91613d2cb5a7de5cd04e757da53264"), looks := true }, kinds := [], alts := [], laidByText := true, laidKinds := [.data, .data, .data, .data, .sentinel, .sentinel, .pinned], laidTests := true, laidLooks := .later }
def ScriptReadsUptoCardSaid : Prop := Claim7.holds Tryd.pinned (.plain (OpenSpec.upto scriptReadsSpec)) scriptReadsUptoCard

/-- THE SECOND FORM's CARD OF 'rotalaw19.ScriptDraws'. -/
def scriptDrawsUptoCard : Claim7 := { stood := { row := scriptDrawsUptoRow, standIns := [], harness := (true, "ab9f09eead9cb82bec5caa4d11f82baf4e91613d2cb5a7de5cd04e757da53264"), looks := true }, kinds := [], alts := [], laidByText := true, laidKinds := [.data, .data, .data, .data, .sentinel, .sentinel, .pinned], laidTests := true, laidLooks := .later }
def ScriptDrawsUptoCardSaid : Prop := Claim7.holds Tryd.pinned (.plain (OpenSpec.upto scriptDrawsSpec)) scriptDrawsUptoCard

/-- THE SECOND FORM's CARD OF 'rotalaw19.ScriptOwn'. -/
def scriptOwnUptoCard : Claim7 := { stood := { row := scriptOwnUptoRow, standIns := [], harness := (true, "ab9f09eead9cb82bec5caa4d11f82baf4e91613d2cb5a7de5cd04e757da53264"), looks := true }, kinds := [], alts := [], laidByText := true, laidKinds := [.data, .data, .data, .data, .sentinel, .sentinel, .pinned], laidTests := true, laidLooks := .later }
def ScriptOwnUptoCardSaid : Prop := Claim7.holds Tryd.pinned (.plain (OpenSpec.upto scriptOwnSpec)) scriptOwnUptoCard

/-- THE SECOND FORM's CARD OF 'rotalaw19.ScriptPrints'. -/
def scriptPrintsUptoCard : Claim7 := { stood := { row := scriptPrintsUptoRow, standIns := [], harness := (true, "ab9f09eead9cb82bec5caa4d11f82baf4e91613d2cb5a7de5cd04e757da53264"), looks := true }, kinds := [], alts := [], laidByText := true, laidKinds := [.data, .data, .data, .data, .sentinel, .sentinel, .pinned], laidTests := true, laidLooks := .later }
def ScriptPrintsUptoCardSaid : Prop := Claim7.holds Tryd.pinned (.plain (OpenSpec.upto scriptPrintsSpec)) scriptPrintsUptoCard

/-- THE SECOND FORM's CARD OF 'rotalaw19.ScriptBack'. -/
def scriptBackUptoCard : Claim7 := { stood := { row := scriptBackUptoRow, standIns := [], harness := (true, "ab9f09eead9cb82bec5caa4d11f82baf4e91613d2cb5a7de5cd04e757da53264"), looks := true }, kinds := [], alts := [], laidByText := true, laidKinds := [.data, .data, .data, .data, .sentinel, .sentinel, .pinned], laidTests := true, laidLooks := .later }
def ScriptBackUptoCardSaid : Prop := Claim7.holds Tryd.pinned (.plain (OpenSpec.upto scriptBackSpec)) scriptBackUptoCard

/-- THE SECOND FORM's CARD OF 'rotalaw19.ScriptViews'. -/
def scriptViewsUptoCard : Claim7 := { stood := { row := scriptViewsUptoRow, standIns := [], harness := (true, "ab9f09eead9cb82bec5caa4d11f82baf4e91613d2cb5a7de5cd04e757da53264"), looks := true }, kinds := [], alts := [], laidByText := true, laidKinds := [.data, .data, .data, .data, .sentinel, .sentinel, .pinned], laidTests := true, laidLooks := .later }
def ScriptViewsUptoCardSaid : Prop := Claim7.holds Tryd.pinned (.plain (OpenSpec.upto scriptViewsSpec)) scriptViewsUptoCard

/-- THE SECOND FORM's CARD OF 'rotalaw19.ScriptAgrees'. -/
def scriptAgreesUptoCard : Claim7 := { stood := { row := scriptAgreesUptoRow, standIns := [], harness := (true, "ab9f09eead9cb82bec5caa4d11f82baf4e91613d2cb5a7de5cd04e757da53264"), looks := true }, kinds := [], alts := [], laidByText := true, laidKinds := [.data, .data, .data, .data, .sentinel, .sentinel, .pinned], laidTests := true, laidLooks := .later }
def ScriptAgreesUptoCardSaid : Prop := Claim7.holds Tryd.pinned (.plain (OpenSpec.upto scriptAgreesSpec)) scriptAgreesUptoCard
end Rows
end Go.Proofs.YtonnlkpmfmknlaaDoor
