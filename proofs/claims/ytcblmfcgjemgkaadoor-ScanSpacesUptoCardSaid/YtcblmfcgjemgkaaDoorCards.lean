/-
  DERIVED. GIVEN WITH THE SEED: THE CARDS: each row of YtcblmfcgjemgkaaDoorRows.lean that lists a variable, with what it lists TIED to the program's text (the seventh form; the later family's looks); each row that meets fmt, with fmt's text TOLD by the authors' own Lean function (tested against real Go, not proved from fmt's source: count such statements apart). THE CARD IS WHAT COUNTS. Prove the row's statement (the work); the ties are given (YtcblmfcgjemgkaaDoorTie.lean); close each card by the builder's one call (the guide's Derived/Test/ToyasCard.lean, 'card_holds'). Laid BY PROGRAM, IN A SANDBOX (cutbox-door.mjs). By AI agents, Wed Nov 11 2026. No macro, syntax, notation, axiom, sorry.
-/
import Derived.Test.YtcblmfcgjemgkaaDoorRows
import GoSem.ClaimSeven
namespace Go.Proofs.YtcblmfcgjemgkaaDoor
namespace Rows

/-- THE TIED CARD OF 'bellmanlaw10.ScanTokens'. -/
def scanTokensCard : Claim7 := { stood := { row := scanTokensRow, standIns := [], harness := (true, "fc478c9ac9a2fa4cac87334ef5c57108318b0d9f390af3410660ca6d9c6d3a85"), looks := false }, kinds := [], alts := [], laidByText := true, laidKinds := [.data, .pinned], laidTests := true, laidLooks := .later }
def ScanTokensCardSaid : Prop := Claim7.holds Tryd.pinned (.plain (OpenSpec.ofChange scanTokensSpec)) scanTokensCard

/-- THE TIED CARD OF 'bellmanlaw10.ScanWrites'. -/
def scanWritesCard : Claim7 := { stood := { row := scanWritesRow, standIns := [], harness := (true, "fc478c9ac9a2fa4cac87334ef5c57108318b0d9f390af3410660ca6d9c6d3a85"), looks := false }, kinds := [], alts := [], laidByText := true, laidKinds := [.data, .pinned], laidTests := true, laidLooks := .later }
def ScanWritesCardSaid : Prop := Claim7.holds Tryd.pinned (.plain (OpenSpec.ofChange scanWritesSpec)) scanWritesCard

/-- THE TIED CARD OF 'bellmanlaw10.ScanBack'. -/
def scanBackCard : Claim7 := { stood := { row := scanBackRow, standIns := [], harness := (true, "fc478c9ac9a2fa4cac87334ef5c57108318b0d9f390af3410660ca6d9c6d3a85"), looks := false }, kinds := [], alts := [], laidByText := true, laidKinds := [.data, .pinned], laidTests := true, laidLooks := .later }
def ScanBackCardSaid : Prop := Claim7.holds Tryd.pinned (.plain (OpenSpec.ofChange scanBackSpec)) scanBackCard

/-- THE TIED CARD OF 'bellmanlaw10.ScanPlain'. -/
def scanPlainCard : Claim7 := { stood := { row := scanPlainRow, standIns := [], harness := (true, "fc478c9ac9a2fa4cac87334ef5c57108318b0d9f390af3410660ca6d9c6d3a85"), looks := false }, kinds := [], alts := [], laidByText := true, laidKinds := [.data, .pinned], laidTests := true, laidLooks := .later }
def ScanPlainCardSaid : Prop := Claim7.holds Tryd.pinned (.plain (OpenSpec.ofChange scanPlainSpec)) scanPlainCard

/-- THE TIED CARD OF 'bellmanlaw10.ScanSpaces'. -/
def scanSpacesCard : Claim7 := { stood := { row := scanSpacesRow, standIns := [], harness := (true, "fc478c9ac9a2fa4cac87334ef5c57108318b0d9f390af3410660ca6d9c6d3a85"), looks := false }, kinds := [], alts := [], laidByText := true, laidKinds := [.data, .pinned], laidTests := true, laidLooks := .later }
def ScanSpacesCardSaid : Prop := Claim7.holds Tryd.pinned (.plain (OpenSpec.ofChange scanSpacesSpec)) scanSpacesCard

/-- THE SECOND FORM's CARD OF 'bellmanlaw10.ScanTokens'. -/
def scanTokensUptoCard : Claim7 := { stood := { row := scanTokensUptoRow, standIns := [], harness := (true, "fc478c9ac9a2fa4cac87334ef5c57108318b0d9f390af3410660ca6d9c6d3a85"), looks := false }, kinds := [], alts := [], laidByText := true, laidKinds := [.data, .pinned], laidTests := true, laidLooks := .later }
def ScanTokensUptoCardSaid : Prop := Claim7.holds Tryd.pinned (.plain (OpenSpec.upto scanTokensSpec)) scanTokensUptoCard

/-- THE SECOND FORM's CARD OF 'bellmanlaw10.ScanWrites'. -/
def scanWritesUptoCard : Claim7 := { stood := { row := scanWritesUptoRow, standIns := [], harness := (true, "fc478c9ac9a2fa4cac87334ef5c57108318b0d9f390af3410660ca6d9c6d3a85"), looks := false }, kinds := [], alts := [], laidByText := true, laidKinds := [.data, .pinned], laidTests := true, laidLooks := .later }
def ScanWritesUptoCardSaid : Prop := Claim7.holds Tryd.pinned (.plain (OpenSpec.upto scanWritesSpec)) scanWritesUptoCard

/-- THE SECOND FORM's CARD OF 'bellmanlaw10.ScanBack'. -/
def scanBackUptoCard : Claim7 := { stood := { row := scanBackUptoRow, standIns := [], harness := (true, "fc478c9ac9a2fa4cac87334ef5c57108318b0d9f390af3410660ca6d9c6d3a85"), looks := false }, kinds := [], alts := [], laidByText := true, laidKinds := [.data, .pinned], laidTests := true, laidLooks := .later }
def ScanBackUptoCardSaid : Prop := Claim7.holds Tryd.pinned (.plain (OpenSpec.upto scanBackSpec)) scanBackUptoCard

/-- THE SECOND FORM's CARD OF 'bellmanlaw10.ScanPlain'. -/
def scanPlainUptoCard : Claim7 := { stood := { row := scanPlainUptoRow, standIns := [], harness := (true, "fc478c9ac9a2fa4cac87334ef5c57108318b0d9f390af3410660ca6d9c6d3a85"), looks := false }, kinds := [], alts := [], laidByText := true, laidKinds := [.data, .pinned], laidTests := true, laidLooks := .later }
def ScanPlainUptoCardSaid : Prop := Claim7.holds Tryd.pinned (.plain (OpenSpec.upto scanPlainSpec)) scanPlainUptoCard

/-- THE SECOND FORM's CARD OF 'bellmanlaw10.ScanSpaces'. -/
def scanSpacesUptoCard : Claim7 := { stood := { row := scanSpacesUptoRow, standIns := [], harness := (true, "fc478c9ac9a2fa4cac87334ef5c57108318b0d9f390af3410660ca6d9c6d3a85"), looks := false }, kinds := [], alts := [], laidByText := true, laidKinds := [.data, .pinned], laidTests := true, laidLooks := .later }
def ScanSpacesUptoCardSaid : Prop := Claim7.holds Tryd.pinned (.plain (OpenSpec.upto scanSpacesSpec)) scanSpacesUptoCard
end Rows
end Go.Proofs.YtcblmfcgjemgkaaDoor
