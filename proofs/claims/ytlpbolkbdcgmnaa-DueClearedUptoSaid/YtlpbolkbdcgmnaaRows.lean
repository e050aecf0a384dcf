/-
  No cell of these rows narrows 'for every input' (looked for: loops, veiled, ifaces, maps, wideKeys, modest, calm, conditions, laid).
  DERIVED. THE GIVEN ROWS OF THIS SEAT. 10 by the template 'for every input the law returns true; each argument reads behind the call as it read before'; 0 by the template 'total and deterministic' (their statements: YtlpbolkbdcgmnaaTotals.lean).
  GIVEN WITH THE SEED: the statements are not yours to turn. If you find one false, say at which input.
  Laid BY PROGRAM, IN A SANDBOX (cutbox-rows.mjs): the forced cells as the released guide's own fill.sh prints them over the translation 595870a5d13aba0f… (all of the seat's roots in one cut). By AI agents, Wed Nov 11 2026. No macro, syntax, notation, axiom, sorry.
-/
import Derived.Test.YtlpbolkbdcgmnaaChecked
import GoSem.Claim
import GoSem.ClaimJoined
import GoSem.ClaimMapViews
import Derived.JoinedTies
import Derived.KernelRfl
namespace Go.Proofs.Ytlpbolkbdcgmnaa
/- THE CELL 'sum', in the pinned program and in every row, IS THE sha256 OF THE DUMP (.gsa) THAT YtlpbolkbdcgmnaaProg.lean LOADS. Nothing in Lean hashes anything: it is a label: what it is worth is what the hold of that sum in a sandbox is worth. -/
noncomputable def Try.pinned : Pinned := { name := "ytlpbolkbdcgmnaa", sum := "595870a5d13aba0f671f738e3001588ecdbbeaa779a5d0b6769cd2f7c70e0a5c", checked := Try.checked }
namespace Rows
def none {H : Type} : Left H := { results := [], args := [] }

/-- 'bellmantop.TopDue': WHATEVER THE INPUT: true; the input reads as it did. -/
def topDueSpec : ChangeSpec := { name := "topDue", fn := fun _ => fun
  | [d1, d2, d3] => { results := [.lit (.bool true)], args := [d1, d2, d3] }
  | _ => none }
def topDueRow : OpenClaim := { program := "ytlpbolkbdcgmnaa", sum := "595870a5d13aba0f671f738e3001588ecdbbeaa779a5d0b6769cd2f7c70e0a5c", func := "bellman/bellmantop.TopDue", spec := "topDue", unfollowed := true, recurses := true, apart := false }
def TopDueSaid : Prop := topDueRow.holds Try.pinned (OpenSpec.ofChange topDueSpec)

/-- ITS FALSE NEIGHBOUR: 'it returns false'. Refute it at one input. -/
def topDueWrong : ChangeSpec := { name := "topDue", fn := fun _ => fun
  | [d1, d2, d3] => { results := [.lit (.bool false)], args := [d1, d2, d3] }
  | _ => none }
def TopDueWrongFalsely : Prop := topDueRow.holds Try.pinned (OpenSpec.ofChange topDueWrong)

/-- 'bellmanlaw15.HeapMakes': WHATEVER THE INPUT: true; the input reads as it did. -/
def heapMakesSpec : ChangeSpec := { name := "heapMakes", fn := fun _ => fun
  | [d1, d2] => { results := [.lit (.bool true)], args := [d1, d2] }
  | _ => none }
def heapMakesRow : OpenClaim := { program := "ytlpbolkbdcgmnaa", sum := "595870a5d13aba0f671f738e3001588ecdbbeaa779a5d0b6769cd2f7c70e0a5c", func := "bellman/bellmanlaw15.HeapMakes", spec := "heapMakes", unfollowed := true, recurses := true, apart := false }
def HeapMakesSaid : Prop := heapMakesRow.holds Try.pinned (OpenSpec.ofChange heapMakesSpec)

/-- ITS FALSE NEIGHBOUR: 'it returns false'. Refute it at one input. -/
def heapMakesWrong : ChangeSpec := { name := "heapMakes", fn := fun _ => fun
  | [d1, d2] => { results := [.lit (.bool false)], args := [d1, d2] }
  | _ => none }
def HeapMakesWrongFalsely : Prop := heapMakesRow.holds Try.pinned (OpenSpec.ofChange heapMakesWrong)

/-- 'bellmanlaw15.HeapOrder': WHATEVER THE INPUT: true; the input reads as it did. -/
def heapOrderSpec : ChangeSpec := { name := "heapOrder", fn := fun _ => fun
  | [d] => { results := [.lit (.bool true)], args := [d] }
  | _ => none }
def heapOrderRow : OpenClaim := { program := "ytlpbolkbdcgmnaa", sum := "595870a5d13aba0f671f738e3001588ecdbbeaa779a5d0b6769cd2f7c70e0a5c", func := "bellman/bellmanlaw15.HeapOrder", spec := "heapOrder", unfollowed := true, recurses := true, apart := false }
def HeapOrderSaid : Prop := heapOrderRow.holds Try.pinned (OpenSpec.ofChange heapOrderSpec)

/-- ITS FALSE NEIGHBOUR: 'it returns false'. Refute it at one input. -/
def heapOrderWrong : ChangeSpec := { name := "heapOrder", fn := fun _ => fun
  | [d] => { results := [.lit (.bool false)], args := [d] }
  | _ => none }
def HeapOrderWrongFalsely : Prop := heapOrderRow.holds Try.pinned (OpenSpec.ofChange heapOrderWrong)

/-- 'bellmanlaw15.HeapBack': WHATEVER THE INPUT: true; the input reads as it did. -/
def heapBackSpec : ChangeSpec := { name := "heapBack", fn := fun _ => fun
  | [d1, d2] => { results := [.lit (.bool true)], args := [d1, d2] }
  | _ => none }
def heapBackRow : OpenClaim := { program := "ytlpbolkbdcgmnaa", sum := "595870a5d13aba0f671f738e3001588ecdbbeaa779a5d0b6769cd2f7c70e0a5c", func := "bellman/bellmanlaw15.HeapBack", spec := "heapBack", unfollowed := true, recurses := true, apart := false }
def HeapBackSaid : Prop := heapBackRow.holds Try.pinned (OpenSpec.ofChange heapBackSpec)

/-- ITS FALSE NEIGHBOUR: 'it returns false'. Refute it at one input. -/
def heapBackWrong : ChangeSpec := { name := "heapBack", fn := fun _ => fun
  | [d1, d2] => { results := [.lit (.bool false)], args := [d1, d2] }
  | _ => none }
def HeapBackWrongFalsely : Prop := heapBackRow.holds Try.pinned (OpenSpec.ofChange heapBackWrong)

/-- 'bellmanlaw15.HeapAny': WHATEVER THE INPUT: true; the input reads as it did. -/
def heapAnySpec : ChangeSpec := { name := "heapAny", fn := fun _ => fun
  | [d] => { results := [.lit (.bool true)], args := [d] }
  | _ => none }
def heapAnyRow : OpenClaim := { program := "ytlpbolkbdcgmnaa", sum := "595870a5d13aba0f671f738e3001588ecdbbeaa779a5d0b6769cd2f7c70e0a5c", func := "bellman/bellmanlaw15.HeapAny", spec := "heapAny", unfollowed := true, recurses := true, apart := false }
def HeapAnySaid : Prop := heapAnyRow.holds Try.pinned (OpenSpec.ofChange heapAnySpec)

/-- ITS FALSE NEIGHBOUR: 'it returns false'. Refute it at one input. -/
def heapAnyWrong : ChangeSpec := { name := "heapAny", fn := fun _ => fun
  | [d] => { results := [.lit (.bool false)], args := [d] }
  | _ => none }
def HeapAnyWrongFalsely : Prop := heapAnyRow.holds Try.pinned (OpenSpec.ofChange heapAnyWrong)

/-- 'bellmanlaw16.DueDrains': WHATEVER THE INPUT: true; the input reads as it did. -/
def dueDrainsSpec : ChangeSpec := { name := "dueDrains", fn := fun _ => fun
  | [d1, d2] => { results := [.lit (.bool true)], args := [d1, d2] }
  | _ => none }
def dueDrainsRow : OpenClaim := { program := "ytlpbolkbdcgmnaa", sum := "595870a5d13aba0f671f738e3001588ecdbbeaa779a5d0b6769cd2f7c70e0a5c", func := "bellman/bellmanlaw16.DueDrains", spec := "dueDrains", unfollowed := true, recurses := true, apart := false }
def DueDrainsSaid : Prop := dueDrainsRow.holds Try.pinned (OpenSpec.ofChange dueDrainsSpec)

/-- ITS FALSE NEIGHBOUR: 'it returns false'. Refute it at one input. -/
def dueDrainsWrong : ChangeSpec := { name := "dueDrains", fn := fun _ => fun
  | [d1, d2] => { results := [.lit (.bool false)], args := [d1, d2] }
  | _ => none }
def DueDrainsWrongFalsely : Prop := dueDrainsRow.holds Try.pinned (OpenSpec.ofChange dueDrainsWrong)

/-- 'bellmanlaw16.DueMoves': WHATEVER THE INPUT: true; the input reads as it did. -/
def dueMovesSpec : ChangeSpec := { name := "dueMoves", fn := fun _ => fun
  | [d1, d2, d3, d4, d5] => { results := [.lit (.bool true)], args := [d1, d2, d3, d4, d5] }
  | _ => none }
def dueMovesRow : OpenClaim := { program := "ytlpbolkbdcgmnaa", sum := "595870a5d13aba0f671f738e3001588ecdbbeaa779a5d0b6769cd2f7c70e0a5c", func := "bellman/bellmanlaw16.DueMoves", spec := "dueMoves", unfollowed := true, recurses := true, apart := false }
def DueMovesSaid : Prop := dueMovesRow.holds Try.pinned (OpenSpec.ofChange dueMovesSpec)

/-- ITS FALSE NEIGHBOUR: 'it returns false'. Refute it at one input. -/
def dueMovesWrong : ChangeSpec := { name := "dueMoves", fn := fun _ => fun
  | [d1, d2, d3, d4, d5] => { results := [.lit (.bool false)], args := [d1, d2, d3, d4, d5] }
  | _ => none }
def DueMovesWrongFalsely : Prop := dueMovesRow.holds Try.pinned (OpenSpec.ofChange dueMovesWrong)

/-- 'bellmanlaw16.DuePieces': WHATEVER THE INPUT: true; the input reads as it did. -/
def duePiecesSpec : ChangeSpec := { name := "duePieces", fn := fun _ => fun
  | [d1, d2, d3] => { results := [.lit (.bool true)], args := [d1, d2, d3] }
  | _ => none }
def duePiecesRow : OpenClaim := { program := "ytlpbolkbdcgmnaa", sum := "595870a5d13aba0f671f738e3001588ecdbbeaa779a5d0b6769cd2f7c70e0a5c", func := "bellman/bellmanlaw16.DuePieces", spec := "duePieces", unfollowed := true, recurses := true, apart := false }
def DuePiecesSaid : Prop := duePiecesRow.holds Try.pinned (OpenSpec.ofChange duePiecesSpec)

/-- ITS FALSE NEIGHBOUR: 'it returns false'. Refute it at one input. -/
def duePiecesWrong : ChangeSpec := { name := "duePieces", fn := fun _ => fun
  | [d1, d2, d3] => { results := [.lit (.bool false)], args := [d1, d2, d3] }
  | _ => none }
def DuePiecesWrongFalsely : Prop := duePiecesRow.holds Try.pinned (OpenSpec.ofChange duePiecesWrong)

/-- 'bellmanlaw16.DueLeft': WHATEVER THE INPUT: true; the input reads as it did. -/
def dueLeftSpec : ChangeSpec := { name := "dueLeft", fn := fun _ => fun
  | [d1, d2] => { results := [.lit (.bool true)], args := [d1, d2] }
  | _ => none }
def dueLeftRow : OpenClaim := { program := "ytlpbolkbdcgmnaa", sum := "595870a5d13aba0f671f738e3001588ecdbbeaa779a5d0b6769cd2f7c70e0a5c", func := "bellman/bellmanlaw16.DueLeft", spec := "dueLeft", unfollowed := true, recurses := true, apart := false }
def DueLeftSaid : Prop := dueLeftRow.holds Try.pinned (OpenSpec.ofChange dueLeftSpec)

/-- ITS FALSE NEIGHBOUR: 'it returns false'. Refute it at one input. -/
def dueLeftWrong : ChangeSpec := { name := "dueLeft", fn := fun _ => fun
  | [d1, d2] => { results := [.lit (.bool false)], args := [d1, d2] }
  | _ => none }
def DueLeftWrongFalsely : Prop := dueLeftRow.holds Try.pinned (OpenSpec.ofChange dueLeftWrong)

/-- 'bellmanlaw16.DueCleared': WHATEVER THE INPUT: true; the input reads as it did. -/
def dueClearedSpec : ChangeSpec := { name := "dueCleared", fn := fun _ => fun
  | [d1, d2, d3, d4] => { results := [.lit (.bool true)], args := [d1, d2, d3, d4] }
  | _ => none }
def dueClearedRow : OpenClaim := { program := "ytlpbolkbdcgmnaa", sum := "595870a5d13aba0f671f738e3001588ecdbbeaa779a5d0b6769cd2f7c70e0a5c", func := "bellman/bellmanlaw16.DueCleared", spec := "dueCleared", unfollowed := true, recurses := true, apart := false }
def DueClearedSaid : Prop := dueClearedRow.holds Try.pinned (OpenSpec.ofChange dueClearedSpec)

/-- ITS FALSE NEIGHBOUR: 'it returns false'. Refute it at one input. -/
def dueClearedWrong : ChangeSpec := { name := "dueCleared", fn := fun _ => fun
  | [d1, d2, d3, d4] => { results := [.lit (.bool false)], args := [d1, d2, d3, d4] }
  | _ => none }
def DueClearedWrongFalsely : Prop := dueClearedRow.holds Try.pinned (OpenSpec.ofChange dueClearedWrong)

/- THE SECOND FORM. 'bulk': how many values and letters a reading holds, each counted each time it is reached (what is shared counts as often as it is met; a slice's spare places count too). A statement '..UptoSaid' is the law's where the arguments, and the package variables that the reading takes, are together of bulk at most 1048576: NARROWER than '..Said'. Prove '..Said' where nothing that the law and all that it calls make is longer than what came in: it says more and counts as full. Else prove '..UptoSaid'. A law counts once. -/
mutual
def uptoBulk {H : Type} : DataW H → Nat
  | .lit (.string bytes) => bytes.length + 1
  | .lit _ => 1
  | .nil => 1
  | .ptr d => uptoBulk d + 1
  | .slice elems spare => uptoBulkAll elems + uptoBulkAll spare + 1
  | .agg parts => uptoBulkAll parts + 1
  | .iface _ d => uptoBulk d + 1
  | .map entries => uptoBulkEntries entries + 1
  | .held _ => 1
def uptoBulkAll {H : Type} : List (DataW H) → Nat
  | [] => 0
  | d :: r => uptoBulk d + uptoBulkAll r
def uptoBulkEntries {H : Type} : List (Lit × DataW H) → Nat
  | [] => 0
  | x :: r => uptoBulkEntry x + uptoBulkEntries r
def uptoBulkEntry {H : Type} : Lit × DataW H → Nat
  | (.string bytes, d) => bytes.length + uptoBulk d + 1
  | (_, d) => uptoBulk d + 1
 end
def uptoSmall : (H : Type) → List (DataW H) → Bool := fun _ ds => decide (uptoBulkAll ds ≤ 1048576)
def OpenSpec.upto (s : _root_.Go.ChangeSpec) : _root_.Go.OpenSpec := { _root_.Go.OpenSpec.ofChange s with cond := some uptoSmall }

/-- 'bellmantop.TopDue', WHERE WHAT IT READS IS OF BULK AT MOST 1048576: true; the input reads as it did. -/
def topDueUptoRow : OpenClaim := { program := "ytlpbolkbdcgmnaa", sum := "595870a5d13aba0f671f738e3001588ecdbbeaa779a5d0b6769cd2f7c70e0a5c", func := "bellman/bellmantop.TopDue", spec := "topDue", unfollowed := true, recurses := true, apart := false, narrowed := true }
def TopDueUptoSaid : Prop := topDueUptoRow.holds Try.pinned (OpenSpec.upto topDueSpec)

/-- 'bellmanlaw15.HeapMakes', WHERE WHAT IT READS IS OF BULK AT MOST 1048576: true; the input reads as it did. -/
def heapMakesUptoRow : OpenClaim := { program := "ytlpbolkbdcgmnaa", sum := "595870a5d13aba0f671f738e3001588ecdbbeaa779a5d0b6769cd2f7c70e0a5c", func := "bellman/bellmanlaw15.HeapMakes", spec := "heapMakes", unfollowed := true, recurses := true, apart := false, narrowed := true }
def HeapMakesUptoSaid : Prop := heapMakesUptoRow.holds Try.pinned (OpenSpec.upto heapMakesSpec)

/-- 'bellmanlaw15.HeapOrder', WHERE WHAT IT READS IS OF BULK AT MOST 1048576: true; the input reads as it did. -/
def heapOrderUptoRow : OpenClaim := { program := "ytlpbolkbdcgmnaa", sum := "595870a5d13aba0f671f738e3001588ecdbbeaa779a5d0b6769cd2f7c70e0a5c", func := "bellman/bellmanlaw15.HeapOrder", spec := "heapOrder", unfollowed := true, recurses := true, apart := false, narrowed := true }
def HeapOrderUptoSaid : Prop := heapOrderUptoRow.holds Try.pinned (OpenSpec.upto heapOrderSpec)

/-- 'bellmanlaw15.HeapBack', WHERE WHAT IT READS IS OF BULK AT MOST 1048576: true; the input reads as it did. -/
def heapBackUptoRow : OpenClaim := { program := "ytlpbolkbdcgmnaa", sum := "595870a5d13aba0f671f738e3001588ecdbbeaa779a5d0b6769cd2f7c70e0a5c", func := "bellman/bellmanlaw15.HeapBack", spec := "heapBack", unfollowed := true, recurses := true, apart := false, narrowed := true }
def HeapBackUptoSaid : Prop := heapBackUptoRow.holds Try.pinned (OpenSpec.upto heapBackSpec)

/-- 'bellmanlaw15.HeapAny', WHERE WHAT IT READS IS OF BULK AT MOST 1048576: true; the input reads as it did. -/
def heapAnyUptoRow : OpenClaim := { program := "ytlpbolkbdcgmnaa", sum := "595870a5d13aba0f671f738e3001588ecdbbeaa779a5d0b6769cd2f7c70e0a5c", func := "bellman/bellmanlaw15.HeapAny", spec := "heapAny", unfollowed := true, recurses := true, apart := false, narrowed := true }
def HeapAnyUptoSaid : Prop := heapAnyUptoRow.holds Try.pinned (OpenSpec.upto heapAnySpec)

/-- 'bellmanlaw16.DueDrains', WHERE WHAT IT READS IS OF BULK AT MOST 1048576: true; the input reads as it did. -/
def dueDrainsUptoRow : OpenClaim := { program := "ytlpbolkbdcgmnaa", sum := "595870a5d13aba0f671f738e3001588ecdbbeaa779a5d0b6769cd2f7c70e0a5c", func := "bellman/bellmanlaw16.DueDrains", spec := "dueDrains", unfollowed := true, recurses := true, apart := false, narrowed := true }
def DueDrainsUptoSaid : Prop := dueDrainsUptoRow.holds Try.pinned (OpenSpec.upto dueDrainsSpec)

/-- 'bellmanlaw16.DueMoves', WHERE WHAT IT READS IS OF BULK AT MOST 1048576: true; the input reads as it did. -/
def dueMovesUptoRow : OpenClaim := { program := "ytlpbolkbdcgmnaa", sum := "595870a5d13aba0f671f738e3001588ecdbbeaa779a5d0b6769cd2f7c70e0a5c", func := "bellman/bellmanlaw16.DueMoves", spec := "dueMoves", unfollowed := true, recurses := true, apart := false, narrowed := true }
def DueMovesUptoSaid : Prop := dueMovesUptoRow.holds Try.pinned (OpenSpec.upto dueMovesSpec)

/-- 'bellmanlaw16.DuePieces', WHERE WHAT IT READS IS OF BULK AT MOST 1048576: true; the input reads as it did. -/
def duePiecesUptoRow : OpenClaim := { program := "ytlpbolkbdcgmnaa", sum := "595870a5d13aba0f671f738e3001588ecdbbeaa779a5d0b6769cd2f7c70e0a5c", func := "bellman/bellmanlaw16.DuePieces", spec := "duePieces", unfollowed := true, recurses := true, apart := false, narrowed := true }
def DuePiecesUptoSaid : Prop := duePiecesUptoRow.holds Try.pinned (OpenSpec.upto duePiecesSpec)

/-- 'bellmanlaw16.DueLeft', WHERE WHAT IT READS IS OF BULK AT MOST 1048576: true; the input reads as it did. -/
def dueLeftUptoRow : OpenClaim := { program := "ytlpbolkbdcgmnaa", sum := "595870a5d13aba0f671f738e3001588ecdbbeaa779a5d0b6769cd2f7c70e0a5c", func := "bellman/bellmanlaw16.DueLeft", spec := "dueLeft", unfollowed := true, recurses := true, apart := false, narrowed := true }
def DueLeftUptoSaid : Prop := dueLeftUptoRow.holds Try.pinned (OpenSpec.upto dueLeftSpec)

/-- 'bellmanlaw16.DueCleared', WHERE WHAT IT READS IS OF BULK AT MOST 1048576: true; the input reads as it did. -/
def dueClearedUptoRow : OpenClaim := { program := "ytlpbolkbdcgmnaa", sum := "595870a5d13aba0f671f738e3001588ecdbbeaa779a5d0b6769cd2f7c70e0a5c", func := "bellman/bellmanlaw16.DueCleared", spec := "dueCleared", unfollowed := true, recurses := true, apart := false, narrowed := true }
def DueClearedUptoSaid : Prop := dueClearedUptoRow.holds Try.pinned (OpenSpec.upto dueClearedSpec)

end Rows
end Go.Proofs.Ytlpbolkbdcgmnaa
