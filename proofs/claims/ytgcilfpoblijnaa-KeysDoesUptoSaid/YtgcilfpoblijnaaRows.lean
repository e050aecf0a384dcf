/-
  No cell of these rows narrows 'for every input' (looked for: loops, veiled, ifaces, maps, wideKeys, modest, calm, conditions, laid).
  DERIVED. THE GIVEN ROWS OF THIS SEAT. 13 by the template 'for every input the law returns true; each argument reads behind the call as it read before'; 0 by the template 'total and deterministic' (their statements: YtgcilfpoblijnaaTotals.lean).
  GIVEN WITH THE SEED: the statements are not yours to turn. If you find one false, say at which input.
  Laid BY PROGRAM, IN A SANDBOX (cutbox-rows.mjs): the forced cells as the released guide's own fill.sh prints them over the translation c846098827e1c460… (all of the seat's roots in one cut). By AI agents, Wed Nov 11 2026. No macro, syntax, notation, axiom, sorry.
-/
import Derived.Test.YtgcilfpoblijnaaChecked
import GoSem.Claim
import GoSem.ClaimJoined
import GoSem.ClaimMapViews
import Derived.JoinedTies
import Derived.KernelRfl
namespace Go.Proofs.Ytgcilfpoblijnaa
/- THE CELL 'sum', in the pinned program and in every row, IS THE sha256 OF THE DUMP (.gsa) THAT YtgcilfpoblijnaaProg.lean LOADS. Nothing in Lean hashes anything: it is a label: what it is worth is what the hold of that sum in a sandbox is worth. -/
noncomputable def Try.pinned : Pinned := { name := "ytgcilfpoblijnaa", sum := "c846098827e1c4609beaa9c68c931e67b7cf24635679b15305ec60b89dad39fc", checked := Try.checked }
namespace Rows
def none {H : Type} : Left H := { results := [], args := [] }

/-- 'bellmanlaw01.WireNumbers': WHATEVER THE INPUT: true; the input reads as it did. -/
def wireNumbersSpec : ChangeSpec := { name := "wireNumbers", fn := fun _ => fun
  | [d1, d2, d3] => { results := [.lit (.bool true)], args := [d1, d2, d3] }
  | _ => none }
def wireNumbersRow : OpenClaim := { program := "ytgcilfpoblijnaa", sum := "c846098827e1c4609beaa9c68c931e67b7cf24635679b15305ec60b89dad39fc", func := "bellman/bellmanlaw01.WireNumbers", spec := "wireNumbers", apart := false }
def WireNumbersSaid : Prop := wireNumbersRow.holds Try.pinned (OpenSpec.ofChange wireNumbersSpec)

/-- ITS FALSE NEIGHBOUR: 'it returns false'. Refute it at one input. -/
def wireNumbersWrong : ChangeSpec := { name := "wireNumbers", fn := fun _ => fun
  | [d1, d2, d3] => { results := [.lit (.bool false)], args := [d1, d2, d3] }
  | _ => none }
def WireNumbersWrongFalsely : Prop := wireNumbersRow.holds Try.pinned (OpenSpec.ofChange wireNumbersWrong)

/-- 'bellmanlaw01.WireBack': WHATEVER THE INPUT: true; the input reads as it did. -/
def wireBackSpec : ChangeSpec := { name := "wireBack", fn := fun _ => fun
  | [d1, d2, d3] => { results := [.lit (.bool true)], args := [d1, d2, d3] }
  | _ => none }
def wireBackRow : OpenClaim := { program := "ytgcilfpoblijnaa", sum := "c846098827e1c4609beaa9c68c931e67b7cf24635679b15305ec60b89dad39fc", func := "bellman/bellmanlaw01.WireBack", spec := "wireBack", apart := false }
def WireBackSaid : Prop := wireBackRow.holds Try.pinned (OpenSpec.ofChange wireBackSpec)

/-- ITS FALSE NEIGHBOUR: 'it returns false'. Refute it at one input. -/
def wireBackWrong : ChangeSpec := { name := "wireBack", fn := fun _ => fun
  | [d1, d2, d3] => { results := [.lit (.bool false)], args := [d1, d2, d3] }
  | _ => none }
def WireBackWrongFalsely : Prop := wireBackRow.holds Try.pinned (OpenSpec.ofChange wireBackWrong)

/-- 'bellmanlaw01.WireApart': WHATEVER THE INPUT: true; the input reads as it did. -/
def wireApartSpec : ChangeSpec := { name := "wireApart", fn := fun _ => fun
  | [d1, d2] => { results := [.lit (.bool true)], args := [d1, d2] }
  | _ => none }
def wireApartRow : OpenClaim := { program := "ytgcilfpoblijnaa", sum := "c846098827e1c4609beaa9c68c931e67b7cf24635679b15305ec60b89dad39fc", func := "bellman/bellmanlaw01.WireApart", spec := "wireApart", apart := false }
def WireApartSaid : Prop := wireApartRow.holds Try.pinned (OpenSpec.ofChange wireApartSpec)

/-- ITS FALSE NEIGHBOUR: 'it returns false'. Refute it at one input. -/
def wireApartWrong : ChangeSpec := { name := "wireApart", fn := fun _ => fun
  | [d1, d2] => { results := [.lit (.bool false)], args := [d1, d2] }
  | _ => none }
def WireApartWrongFalsely : Prop := wireApartRow.holds Try.pinned (OpenSpec.ofChange wireApartWrong)

/-- 'bellmanlaw02.SumFrames': WHATEVER THE INPUT: true; the input reads as it did. -/
def sumFramesSpec : ChangeSpec := { name := "sumFrames", fn := fun _ => fun
  | [d1, d2] => { results := [.lit (.bool true)], args := [d1, d2] }
  | _ => none }
def sumFramesRow : OpenClaim := { program := "ytgcilfpoblijnaa", sum := "c846098827e1c4609beaa9c68c931e67b7cf24635679b15305ec60b89dad39fc", func := "bellman/bellmanlaw02.SumFrames", spec := "sumFrames", apart := false }
def SumFramesSaid : Prop := sumFramesRow.holds Try.pinned (OpenSpec.ofChange sumFramesSpec)

/-- ITS FALSE NEIGHBOUR: 'it returns false'. Refute it at one input. -/
def sumFramesWrong : ChangeSpec := { name := "sumFrames", fn := fun _ => fun
  | [d1, d2] => { results := [.lit (.bool false)], args := [d1, d2] }
  | _ => none }
def SumFramesWrongFalsely : Prop := sumFramesRow.holds Try.pinned (OpenSpec.ofChange sumFramesWrong)

/-- 'bellmanlaw02.SumPieces': WHATEVER THE INPUT: true; the input reads as it did. -/
def sumPiecesSpec : ChangeSpec := { name := "sumPieces", fn := fun _ => fun
  | [d1, d2, d3] => { results := [.lit (.bool true)], args := [d1, d2, d3] }
  | _ => none }
def sumPiecesRow : OpenClaim := { program := "ytgcilfpoblijnaa", sum := "c846098827e1c4609beaa9c68c931e67b7cf24635679b15305ec60b89dad39fc", func := "bellman/bellmanlaw02.SumPieces", spec := "sumPieces", apart := false }
def SumPiecesSaid : Prop := sumPiecesRow.holds Try.pinned (OpenSpec.ofChange sumPiecesSpec)

/-- ITS FALSE NEIGHBOUR: 'it returns false'. Refute it at one input. -/
def sumPiecesWrong : ChangeSpec := { name := "sumPieces", fn := fun _ => fun
  | [d1, d2, d3] => { results := [.lit (.bool false)], args := [d1, d2, d3] }
  | _ => none }
def SumPiecesWrongFalsely : Prop := sumPiecesRow.holds Try.pinned (OpenSpec.ofChange sumPiecesWrong)

/-- 'bellmanlaw02.SumBack': WHATEVER THE INPUT: true; the input reads as it did. -/
def sumBackSpec : ChangeSpec := { name := "sumBack", fn := fun _ => fun
  | [d1, d2] => { results := [.lit (.bool true)], args := [d1, d2] }
  | _ => none }
def sumBackRow : OpenClaim := { program := "ytgcilfpoblijnaa", sum := "c846098827e1c4609beaa9c68c931e67b7cf24635679b15305ec60b89dad39fc", func := "bellman/bellmanlaw02.SumBack", spec := "sumBack", apart := false }
def SumBackSaid : Prop := sumBackRow.holds Try.pinned (OpenSpec.ofChange sumBackSpec)

/-- ITS FALSE NEIGHBOUR: 'it returns false'. Refute it at one input. -/
def sumBackWrong : ChangeSpec := { name := "sumBack", fn := fun _ => fun
  | [d1, d2] => { results := [.lit (.bool false)], args := [d1, d2] }
  | _ => none }
def SumBackWrongFalsely : Prop := sumBackRow.holds Try.pinned (OpenSpec.ofChange sumBackWrong)

/-- 'bellmanlaw02.SumOn': WHATEVER THE INPUT: true; the input reads as it did. -/
def sumOnSpec : ChangeSpec := { name := "sumOn", fn := fun _ => fun
  | [d1, d2, d3, d4] => { results := [.lit (.bool true)], args := [d1, d2, d3, d4] }
  | _ => none }
def sumOnRow : OpenClaim := { program := "ytgcilfpoblijnaa", sum := "c846098827e1c4609beaa9c68c931e67b7cf24635679b15305ec60b89dad39fc", func := "bellman/bellmanlaw02.SumOn", spec := "sumOn", apart := false }
def SumOnSaid : Prop := sumOnRow.holds Try.pinned (OpenSpec.ofChange sumOnSpec)

/-- ITS FALSE NEIGHBOUR: 'it returns false'. Refute it at one input. -/
def sumOnWrong : ChangeSpec := { name := "sumOn", fn := fun _ => fun
  | [d1, d2, d3, d4] => { results := [.lit (.bool false)], args := [d1, d2, d3, d4] }
  | _ => none }
def SumOnWrongFalsely : Prop := sumOnRow.holds Try.pinned (OpenSpec.ofChange sumOnWrong)

/-- 'bellmanlaw02.SumTurned': WHATEVER THE INPUT: true; the input reads as it did. -/
def sumTurnedSpec : ChangeSpec := { name := "sumTurned", fn := fun _ => fun
  | [d1, d2, d3] => { results := [.lit (.bool true)], args := [d1, d2, d3] }
  | _ => none }
def sumTurnedRow : OpenClaim := { program := "ytgcilfpoblijnaa", sum := "c846098827e1c4609beaa9c68c931e67b7cf24635679b15305ec60b89dad39fc", func := "bellman/bellmanlaw02.SumTurned", spec := "sumTurned", apart := false }
def SumTurnedSaid : Prop := sumTurnedRow.holds Try.pinned (OpenSpec.ofChange sumTurnedSpec)

/-- ITS FALSE NEIGHBOUR: 'it returns false'. Refute it at one input. -/
def sumTurnedWrong : ChangeSpec := { name := "sumTurned", fn := fun _ => fun
  | [d1, d2, d3] => { results := [.lit (.bool false)], args := [d1, d2, d3] }
  | _ => none }
def SumTurnedWrongFalsely : Prop := sumTurnedRow.holds Try.pinned (OpenSpec.ofChange sumTurnedWrong)

/-- 'bellmanlaw01.WireLists': WHATEVER THE INPUT: true; the input reads as it did. -/
def wireListsSpec : ChangeSpec := { name := "wireLists", fn := fun _ => fun
  | [d1, d2, d3] => { results := [.lit (.bool true)], args := [d1, d2, d3] }
  | _ => none }
def wireListsRow : OpenClaim := { program := "ytgcilfpoblijnaa", sum := "c846098827e1c4609beaa9c68c931e67b7cf24635679b15305ec60b89dad39fc", func := "bellman/bellmanlaw01.WireLists", spec := "wireLists", unfollowed := true, recurses := true, apart := false }
def WireListsSaid : Prop := wireListsRow.holds Try.pinned (OpenSpec.ofChange wireListsSpec)

/-- ITS FALSE NEIGHBOUR: 'it returns false'. Refute it at one input. -/
def wireListsWrong : ChangeSpec := { name := "wireLists", fn := fun _ => fun
  | [d1, d2, d3] => { results := [.lit (.bool false)], args := [d1, d2, d3] }
  | _ => none }
def WireListsWrongFalsely : Prop := wireListsRow.holds Try.pinned (OpenSpec.ofChange wireListsWrong)

/-- 'bellmanlaw01.WireMany': WHATEVER THE INPUT: true; the input reads as it did. -/
def wireManySpec : ChangeSpec := { name := "wireMany", fn := fun _ => fun
  | [d1, d2, d3] => { results := [.lit (.bool true)], args := [d1, d2, d3] }
  | _ => none }
def wireManyRow : OpenClaim := { program := "ytgcilfpoblijnaa", sum := "c846098827e1c4609beaa9c68c931e67b7cf24635679b15305ec60b89dad39fc", func := "bellman/bellmanlaw01.WireMany", spec := "wireMany", unfollowed := true, recurses := true, apart := false }
def WireManySaid : Prop := wireManyRow.holds Try.pinned (OpenSpec.ofChange wireManySpec)

/-- ITS FALSE NEIGHBOUR: 'it returns false'. Refute it at one input. -/
def wireManyWrong : ChangeSpec := { name := "wireMany", fn := fun _ => fun
  | [d1, d2, d3] => { results := [.lit (.bool false)], args := [d1, d2, d3] }
  | _ => none }
def WireManyWrongFalsely : Prop := wireManyRow.holds Try.pinned (OpenSpec.ofChange wireManyWrong)

/-- 'bellmanlaw28.KeysDoes': WHATEVER THE INPUT: true; the input reads as it did. -/
def keysDoesSpec : ChangeSpec := { name := "keysDoes", fn := fun _ => fun
  | [d1, d2, d3, d4] => { results := [.lit (.bool true)], args := [d1, d2, d3, d4] }
  | _ => none }
def keysDoesRow : OpenClaim := { program := "ytgcilfpoblijnaa", sum := "c846098827e1c4609beaa9c68c931e67b7cf24635679b15305ec60b89dad39fc", func := "bellman/bellmanlaw28.KeysDoes", spec := "keysDoes", unfollowed := true, recurses := true, apart := false }
def KeysDoesSaid : Prop := keysDoesRow.holds Try.pinned (OpenSpec.ofChange keysDoesSpec)

/-- ITS FALSE NEIGHBOUR: 'it returns false'. Refute it at one input. -/
def keysDoesWrong : ChangeSpec := { name := "keysDoes", fn := fun _ => fun
  | [d1, d2, d3, d4] => { results := [.lit (.bool false)], args := [d1, d2, d3, d4] }
  | _ => none }
def KeysDoesWrongFalsely : Prop := keysDoesRow.holds Try.pinned (OpenSpec.ofChange keysDoesWrong)

/-- 'bellmanlaw28.KeysBack': WHATEVER THE INPUT: true; the input reads as it did. -/
def keysBackSpec : ChangeSpec := { name := "keysBack", fn := fun _ => fun
  | [d1, d2] => { results := [.lit (.bool true)], args := [d1, d2] }
  | _ => none }
def keysBackRow : OpenClaim := { program := "ytgcilfpoblijnaa", sum := "c846098827e1c4609beaa9c68c931e67b7cf24635679b15305ec60b89dad39fc", func := "bellman/bellmanlaw28.KeysBack", spec := "keysBack", unfollowed := true, recurses := true, apart := false }
def KeysBackSaid : Prop := keysBackRow.holds Try.pinned (OpenSpec.ofChange keysBackSpec)

/-- ITS FALSE NEIGHBOUR: 'it returns false'. Refute it at one input. -/
def keysBackWrong : ChangeSpec := { name := "keysBack", fn := fun _ => fun
  | [d1, d2] => { results := [.lit (.bool false)], args := [d1, d2] }
  | _ => none }
def KeysBackWrongFalsely : Prop := keysBackRow.holds Try.pinned (OpenSpec.ofChange keysBackWrong)

/-- 'bellmanlaw28.KeysKept': WHATEVER THE INPUT: true; the input reads as it did. -/
def keysKeptSpec : ChangeSpec := { name := "keysKept", fn := fun _ => fun
  | [d1, d2, d3, d4] => { results := [.lit (.bool true)], args := [d1, d2, d3, d4] }
  | _ => none }
def keysKeptRow : OpenClaim := { program := "ytgcilfpoblijnaa", sum := "c846098827e1c4609beaa9c68c931e67b7cf24635679b15305ec60b89dad39fc", func := "bellman/bellmanlaw28.KeysKept", spec := "keysKept", unfollowed := true, recurses := true, apart := false }
def KeysKeptSaid : Prop := keysKeptRow.holds Try.pinned (OpenSpec.ofChange keysKeptSpec)

/-- ITS FALSE NEIGHBOUR: 'it returns false'. Refute it at one input. -/
def keysKeptWrong : ChangeSpec := { name := "keysKept", fn := fun _ => fun
  | [d1, d2, d3, d4] => { results := [.lit (.bool false)], args := [d1, d2, d3, d4] }
  | _ => none }
def KeysKeptWrongFalsely : Prop := keysKeptRow.holds Try.pinned (OpenSpec.ofChange keysKeptWrong)

/- THE SECOND FORM. 'bulk': how many values and letters a reading holds, each counted each time it is reached (what is shared counts as often as it is met; a slice's spare places count too). A statement '..UptoSaid' is the law's where the arguments, and the package variables that the reading takes, are together of bulk at most 1048576: NARROWER than '..Said'. Prove '..Said' where nothing that the law and all that it calls make is longer than what came in: it says more and counts as full. Else prove '..UptoSaid'. A law counts once. -/
mutual
def uptoBulk {H : Type} : DataW H → Nat
  | .lit (.string bytes) => bytes.length + 1
  | .lit _ => 1
  | .nil => 1
  | .ptr d => uptoBulk d + 1
  | .slice elems spare => uptoBulkAll elems + uptoBulkAll spare + 1
  | .agg parts => uptoBulkAll parts + 1
  | .iface _ d => uptoBulk d + 1
  | .map entries => uptoBulkEntries entries + 1
  | .held _ => 1
def uptoBulkAll {H : Type} : List (DataW H) → Nat
  | [] => 0
  | d :: r => uptoBulk d + uptoBulkAll r
def uptoBulkEntries {H : Type} : List (Lit × DataW H) → Nat
  | [] => 0
  | x :: r => uptoBulkEntry x + uptoBulkEntries r
def uptoBulkEntry {H : Type} : Lit × DataW H → Nat
  | (.string bytes, d) => bytes.length + uptoBulk d + 1
  | (_, d) => uptoBulk d + 1
 end
def uptoSmall : (H : Type) → List (DataW H) → Bool := fun _ ds => decide (uptoBulkAll ds ≤ 1048576)
def OpenSpec.upto (s : _root_.Go.ChangeSpec) : _root_.Go.OpenSpec := { _root_.Go.OpenSpec.ofChange s with cond := some uptoSmall }

/-- 'bellmanlaw01.WireNumbers', WHERE WHAT IT READS IS OF BULK AT MOST 1048576: true; the input reads as it did. -/
def wireNumbersUptoRow : OpenClaim := { program := "ytgcilfpoblijnaa", sum := "c846098827e1c4609beaa9c68c931e67b7cf24635679b15305ec60b89dad39fc", func := "bellman/bellmanlaw01.WireNumbers", spec := "wireNumbers", apart := false, narrowed := true }
def WireNumbersUptoSaid : Prop := wireNumbersUptoRow.holds Try.pinned (OpenSpec.upto wireNumbersSpec)

/-- 'bellmanlaw01.WireBack', WHERE WHAT IT READS IS OF BULK AT MOST 1048576: true; the input reads as it did. -/
def wireBackUptoRow : OpenClaim := { program := "ytgcilfpoblijnaa", sum := "c846098827e1c4609beaa9c68c931e67b7cf24635679b15305ec60b89dad39fc", func := "bellman/bellmanlaw01.WireBack", spec := "wireBack", apart := false, narrowed := true }
def WireBackUptoSaid : Prop := wireBackUptoRow.holds Try.pinned (OpenSpec.upto wireBackSpec)

/-- 'bellmanlaw01.WireApart', WHERE WHAT IT READS IS OF BULK AT MOST 1048576: true; the input reads as it did. -/
def wireApartUptoRow : OpenClaim := { program := "ytgcilfpoblijnaa", sum := "c846098827e1c4609beaa9c68c931e67b7cf24635679b15305ec60b89dad39fc", func := "bellman/bellmanlaw01.WireApart", spec := "wireApart", apart := false, narrowed := true }
def WireApartUptoSaid : Prop := wireApartUptoRow.holds Try.pinned (OpenSpec.upto wireApartSpec)

/-- 'bellmanlaw02.SumFrames', WHERE WHAT IT READS IS OF BULK AT MOST 1048576: true; the input reads as it did. -/
def sumFramesUptoRow : OpenClaim := { program := "ytgcilfpoblijnaa", sum := "c846098827e1c4609beaa9c68c931e67b7cf24635679b15305ec60b89dad39fc", func := "bellman/bellmanlaw02.SumFrames", spec := "sumFrames", apart := false, narrowed := true }
def SumFramesUptoSaid : Prop := sumFramesUptoRow.holds Try.pinned (OpenSpec.upto sumFramesSpec)

/-- 'bellmanlaw02.SumPieces', WHERE WHAT IT READS IS OF BULK AT MOST 1048576: true; the input reads as it did. -/
def sumPiecesUptoRow : OpenClaim := { program := "ytgcilfpoblijnaa", sum := "c846098827e1c4609beaa9c68c931e67b7cf24635679b15305ec60b89dad39fc", func := "bellman/bellmanlaw02.SumPieces", spec := "sumPieces", apart := false, narrowed := true }
def SumPiecesUptoSaid : Prop := sumPiecesUptoRow.holds Try.pinned (OpenSpec.upto sumPiecesSpec)

/-- 'bellmanlaw02.SumBack', WHERE WHAT IT READS IS OF BULK AT MOST 1048576: true; the input reads as it did. -/
def sumBackUptoRow : OpenClaim := { program := "ytgcilfpoblijnaa", sum := "c846098827e1c4609beaa9c68c931e67b7cf24635679b15305ec60b89dad39fc", func := "bellman/bellmanlaw02.SumBack", spec := "sumBack", apart := false, narrowed := true }
def SumBackUptoSaid : Prop := sumBackUptoRow.holds Try.pinned (OpenSpec.upto sumBackSpec)

/-- 'bellmanlaw02.SumOn', WHERE WHAT IT READS IS OF BULK AT MOST 1048576: true; the input reads as it did. -/
def sumOnUptoRow : OpenClaim := { program := "ytgcilfpoblijnaa", sum := "c846098827e1c4609beaa9c68c931e67b7cf24635679b15305ec60b89dad39fc", func := "bellman/bellmanlaw02.SumOn", spec := "sumOn", apart := false, narrowed := true }
def SumOnUptoSaid : Prop := sumOnUptoRow.holds Try.pinned (OpenSpec.upto sumOnSpec)

/-- 'bellmanlaw02.SumTurned', WHERE WHAT IT READS IS OF BULK AT MOST 1048576: true; the input reads as it did. -/
def sumTurnedUptoRow : OpenClaim := { program := "ytgcilfpoblijnaa", sum := "c846098827e1c4609beaa9c68c931e67b7cf24635679b15305ec60b89dad39fc", func := "bellman/bellmanlaw02.SumTurned", spec := "sumTurned", apart := false, narrowed := true }
def SumTurnedUptoSaid : Prop := sumTurnedUptoRow.holds Try.pinned (OpenSpec.upto sumTurnedSpec)

/-- 'bellmanlaw01.WireLists', WHERE WHAT IT READS IS OF BULK AT MOST 1048576: true; the input reads as it did. -/
def wireListsUptoRow : OpenClaim := { program := "ytgcilfpoblijnaa", sum := "c846098827e1c4609beaa9c68c931e67b7cf24635679b15305ec60b89dad39fc", func := "bellman/bellmanlaw01.WireLists", spec := "wireLists", unfollowed := true, recurses := true, apart := false, narrowed := true }
def WireListsUptoSaid : Prop := wireListsUptoRow.holds Try.pinned (OpenSpec.upto wireListsSpec)

/-- 'bellmanlaw01.WireMany', WHERE WHAT IT READS IS OF BULK AT MOST 1048576: true; the input reads as it did. -/
def wireManyUptoRow : OpenClaim := { program := "ytgcilfpoblijnaa", sum := "c846098827e1c4609beaa9c68c931e67b7cf24635679b15305ec60b89dad39fc", func := "bellman/bellmanlaw01.WireMany", spec := "wireMany", unfollowed := true, recurses := true, apart := false, narrowed := true }
def WireManyUptoSaid : Prop := wireManyUptoRow.holds Try.pinned (OpenSpec.upto wireManySpec)

/-- 'bellmanlaw28.KeysDoes', WHERE WHAT IT READS IS OF BULK AT MOST 1048576: true; the input reads as it did. -/
def keysDoesUptoRow : OpenClaim := { program := "ytgcilfpoblijnaa", sum := "c846098827e1c4609beaa9c68c931e67b7cf24635679b15305ec60b89dad39fc", func := "bellman/bellmanlaw28.KeysDoes", spec := "keysDoes", unfollowed := true, recurses := true, apart := false, narrowed := true }
def KeysDoesUptoSaid : Prop := keysDoesUptoRow.holds Try.pinned (OpenSpec.upto keysDoesSpec)

/-- 'bellmanlaw28.KeysBack', WHERE WHAT IT READS IS OF BULK AT MOST 1048576: true; the input reads as it did. -/
def keysBackUptoRow : OpenClaim := { program := "ytgcilfpoblijnaa", sum := "c846098827e1c4609beaa9c68c931e67b7cf24635679b15305ec60b89dad39fc", func := "bellman/bellmanlaw28.KeysBack", spec := "keysBack", unfollowed := true, recurses := true, apart := false, narrowed := true }
def KeysBackUptoSaid : Prop := keysBackUptoRow.holds Try.pinned (OpenSpec.upto keysBackSpec)

/-- 'bellmanlaw28.KeysKept', WHERE WHAT IT READS IS OF BULK AT MOST 1048576: true; the input reads as it did. -/
def keysKeptUptoRow : OpenClaim := { program := "ytgcilfpoblijnaa", sum := "c846098827e1c4609beaa9c68c931e67b7cf24635679b15305ec60b89dad39fc", func := "bellman/bellmanlaw28.KeysKept", spec := "keysKept", unfollowed := true, recurses := true, apart := false, narrowed := true }
def KeysKeptUptoSaid : Prop := keysKeptUptoRow.holds Try.pinned (OpenSpec.upto keysKeptSpec)

end Rows
end Go.Proofs.Ytgcilfpoblijnaa
