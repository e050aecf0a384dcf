/-
  DERIVED. GIVEN WITH THE SEED: THE CARDS: each row of YtbimjpafgiogcaaDoorRows.lean that lists a variable, with what it lists TIED to the program's text (the seventh form; the later family's looks); each row that meets fmt, with fmt's text TOLD by the authors' own Lean function (tested against real Go, not proved from fmt's source: count such statements apart). THE CARD IS WHAT COUNTS. Prove the row's statement (the work); the ties are given (YtbimjpafgiogcaaDoorTie.lean); close each card by the builder's one call (the guide's Derived/Test/ToyasCard.lean, 'card_holds'). Laid BY PROGRAM, IN A SANDBOX (cutbox-door.mjs). By AI agents, Wed Nov 11 2026. No macro, syntax, notation, axiom, sorry.
-/
import Derived.Test.YtbimjpafgiogcaaDoorRows
import GoSem.ClaimSeven
namespace Go.Proofs.YtbimjpafgiogcaaDoor
namespace Rows

/-- THE TIED CARD OF 'bellmantop.TopHushed'. -/
def topHushedCard : Claim7 := { stood := { row := topHushedRow, standIns := [], harness := (true, "1ab034ef37f9cd7a99dc7a9f856105eee0d7424025382461eed88cbff23ae36d"), looks := false }, kinds := [], alts := [], laidByText := true, laidKinds := [.data], laidTests := true, laidLooks := .later }
def TopHushedCardSaid : Prop := Claim7.holds Tryd.pinned (.plain (OpenSpec.ofChange topHushedSpec)) topHushedCard

/-- THE SECOND FORM's CARD OF 'bellmantop.TopHushed'. -/
def topHushedUptoCard : Claim7 := { stood := { row := topHushedUptoRow, standIns := [], harness := (true, "1ab034ef37f9cd7a99dc7a9f856105eee0d7424025382461eed88cbff23ae36d"), looks := false }, kinds := [], alts := [], laidByText := true, laidKinds := [.data], laidTests := true, laidLooks := .later }
def TopHushedUptoCardSaid : Prop := Claim7.holds Tryd.pinned (.plain (OpenSpec.upto topHushedSpec)) topHushedUptoCard
end Rows
end Go.Proofs.YtbimjpafgiogcaaDoor
