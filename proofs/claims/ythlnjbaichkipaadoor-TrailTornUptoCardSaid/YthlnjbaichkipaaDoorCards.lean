/-
  DERIVED. GIVEN WITH THE SEED: THE CARDS: each row of YthlnjbaichkipaaDoorRows.lean that lists a variable, with what it lists TIED to the program's text (the seventh form; the later family's looks); each row that meets fmt, with fmt's text TOLD by the authors' own Lean function (tested against real Go, not proved from fmt's source: count such statements apart). THE CARD IS WHAT COUNTS. Prove the row's statement (the work); the ties are given (YthlnjbaichkipaaDoorTie.lean); close each card by the builder's one call (the guide's Derived/Test/ToyasCard.lean, 'card_holds'). Laid BY PROGRAM, IN A SANDBOX (cutbox-door.mjs). By AI agents, Wed Nov 11 2026. No macro, syntax, notation, axiom, sorry.
-/
import Derived.Test.YthlnjbaichkipaaDoorRows
import GoSem.ClaimSeven
namespace Go.Proofs.YthlnjbaichkipaaDoor
namespace Rows

/-- THE TIED CARD OF 'bellmanlaw04.TrailWiped'. -/
def trailWipedCard : Claim7 := { stood := { row := trailWipedRow, standIns := [], harness := (true, "e971e8712862911d12e598fa6f70687a7e47a05f00f45e643bc3a57c0b15b274"), looks := false }, kinds := [], alts := [], laidByText := true, laidKinds := [.data, .pinned], laidTests := true, laidLooks := .later }
def TrailWipedCardSaid : Prop := Claim7.holds Tryd.pinned (.plain (OpenSpec.ofChange trailWipedSpec)) trailWipedCard

/-- THE TIED CARD OF 'bellmanlaw04.TrailBack'. -/
def trailBackCard : Claim7 := { stood := { row := trailBackRow, standIns := [], harness := (true, "e971e8712862911d12e598fa6f70687a7e47a05f00f45e643bc3a57c0b15b274"), looks := false }, kinds := [], alts := [], laidByText := true, laidKinds := [.data, .pinned], laidTests := true, laidLooks := .later }
def TrailBackCardSaid : Prop := Claim7.holds Tryd.pinned (.plain (OpenSpec.ofChange trailBackSpec)) trailBackCard

/-- THE TIED CARD OF 'bellmanlaw04.TrailTorn'. -/
def trailTornCard : Claim7 := { stood := { row := trailTornRow, standIns := [], harness := (true, "e971e8712862911d12e598fa6f70687a7e47a05f00f45e643bc3a57c0b15b274"), looks := false }, kinds := [], alts := [], laidByText := true, laidKinds := [.data, .pinned], laidTests := true, laidLooks := .later }
def TrailTornCardSaid : Prop := Claim7.holds Tryd.pinned (.plain (OpenSpec.ofChange trailTornSpec)) trailTornCard

/-- THE TIED CARD OF 'bellmantop.TopLogged'. -/
def topLoggedCard : Claim7 := { stood := { row := topLoggedRow, standIns := [], harness := (true, "e971e8712862911d12e598fa6f70687a7e47a05f00f45e643bc3a57c0b15b274"), looks := false }, kinds := [], alts := [], laidByText := true, laidKinds := [.data, .pinned], laidTests := true, laidLooks := .later }
def TopLoggedCardSaid : Prop := Claim7.holds Tryd.pinned (.plain (OpenSpec.ofChange topLoggedSpec)) topLoggedCard

/-- THE SECOND FORM's CARD OF 'bellmanlaw04.TrailWiped'. -/
def trailWipedUptoCard : Claim7 := { stood := { row := trailWipedUptoRow, standIns := [], harness := (true, "e971e8712862911d12e598fa6f70687a7e47a05f00f45e643bc3a57c0b15b274"), looks := false }, kinds := [], alts := [], laidByText := true, laidKinds := [.data, .pinned], laidTests := true, laidLooks := .later }
def TrailWipedUptoCardSaid : Prop := Claim7.holds Tryd.pinned (.plain (OpenSpec.upto trailWipedSpec)) trailWipedUptoCard

/-- THE SECOND FORM's CARD OF 'bellmanlaw04.TrailBack'. -/
def trailBackUptoCard : Claim7 := { stood := { row := trailBackUptoRow, standIns := [], harness := (true, "e971e8712862911d12e598fa6f70687a7e47a05f00f45e643bc3a57c0b15b274"), looks := false }, kinds := [], alts := [], laidByText := true, laidKinds := [.data, .pinned], laidTests := true, laidLooks := .later }
def TrailBackUptoCardSaid : Prop := Claim7.holds Tryd.pinned (.plain (OpenSpec.upto trailBackSpec)) trailBackUptoCard

/-- THE SECOND FORM's CARD OF 'bellmanlaw04.TrailTorn'. -/
def trailTornUptoCard : Claim7 := { stood := { row := trailTornUptoRow, standIns := [], harness := (true, "e971e8712862911d12e598fa6f70687a7e47a05f00f45e643bc3a57c0b15b274"), looks := false }, kinds := [], alts := [], laidByText := true, laidKinds := [.data, .pinned], laidTests := true, laidLooks := .later }
def TrailTornUptoCardSaid : Prop := Claim7.holds Tryd.pinned (.plain (OpenSpec.upto trailTornSpec)) trailTornUptoCard

/-- THE SECOND FORM's CARD OF 'bellmantop.TopLogged'. -/
def topLoggedUptoCard : Claim7 := { stood := { row := topLoggedUptoRow, standIns := [], harness := (true, "e971e8712862911d12e598fa6f70687a7e47a05f00f45e643bc3a57c0b15b274"), looks := false }, kinds := [], alts := [], laidByText := true, laidKinds := [.data, .pinned], laidTests := true, laidLooks := .later }
def TopLoggedUptoCardSaid : Prop := Claim7.holds Tryd.pinned (.plain (OpenSpec.upto topLoggedSpec)) topLoggedUptoCard
end Rows
end Go.Proofs.YthlnjbaichkipaaDoor
