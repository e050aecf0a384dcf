/-
  DERIVED. GIVEN WITH THE SEED: THE CARDS: each row of YtgigekfonenklaaDoorRows.lean that lists a variable, with what it lists TIED to the program's text (the seventh form; the later family's looks); each row that meets fmt, with fmt's text TOLD by the authors' own Lean function (tested against real Go, not proved from fmt's source: count such statements apart). THE CARD IS WHAT COUNTS. Prove the row's statement (the work); the ties are given (YtgigekfonenklaaDoorTie.lean); close each card by the builder's one call (the guide's Derived/Test/ToyasCard.lean, 'card_holds'). Laid BY PROGRAM, IN A SANDBOX (cutbox-door.mjs). By AI agents, Wed Nov 11 2026. No macro, syntax, notation, axiom, sorry.
-/
import Derived.Test.YtgigekfonenklaaDoorRows
import GoSem.ClaimSeven
namespace Go.Proofs.YtgigekfonenklaaDoor
namespace Rows

/-- THE TIED CARD OF 'bellmantop.TopClocks'. -/
def topClocksCard : Claim7 := { stood := { row := topClocksRow, standIns := [], harness := (true, "ca2e14df9d8b8ee6189e1e2b896b08947af852e3b6e0197309b56a6baf75ae30"), looks := false }, kinds := [], alts := [], laidByText := true, laidKinds := [.data], laidTests := true, laidLooks := .later }
def TopClocksCardSaid : Prop := Claim7.holds Tryd.pinned (.plain (OpenSpec.ofChange topClocksSpec)) topClocksCard

/-- THE SECOND FORM's CARD OF 'bellmantop.TopClocks'. -/
def topClocksUptoCard : Claim7 := { stood := { row := topClocksUptoRow, standIns := [], harness := (true, "ca2e14df9d8b8ee6189e1e2b896b08947af852e3b6e0197309b56a6baf75ae30"), looks := false }, kinds := [], alts := [], laidByText := true, laidKinds := [.data], laidTests := true, laidLooks := .later }
def TopClocksUptoCardSaid : Prop := Claim7.holds Tryd.pinned (.plain (OpenSpec.upto topClocksSpec)) topClocksUptoCard
end Rows
end Go.Proofs.YtgigekfonenklaaDoor
