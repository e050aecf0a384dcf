/-
  No cell of these rows narrows 'for every input' (looked for: loops, veiled, ifaces, maps, wideKeys, modest, calm, conditions, laid).
  DERIVED. THE GIVEN ROWS OF THIS SEAT. 4 by the template 'for every input the law returns true; each argument reads behind the call as it read before'; 0 by the template 'total and deterministic' (their statements: YtedbbpefogcjnaaTotals.lean).
  GIVEN WITH THE SEED: the statements are not yours to turn. If you find one false, say at which input.
  Laid BY PROGRAM, IN A SANDBOX (cutbox-rows.mjs): the forced cells as the released guide's own fill.sh prints them over the translation 3499d22e9771e604… (all of the seat's roots in one cut). By AI agents, Wed Nov 11 2026. No macro, syntax, notation, axiom, sorry.
-/
import Derived.Test.YtedbbpefogcjnaaChecked
import GoSem.Claim
import GoSem.ClaimJoined
import GoSem.ClaimMapViews
import Derived.JoinedTies
import Derived.KernelRfl
namespace Go.Proofs.Ytedbbpefogcjnaa
/- THE CELL 'sum', in the pinned program and in every row, IS THE sha256 OF THE DUMP (.gsa) THAT YtedbbpefogcjnaaProg.lean LOADS. Nothing in Lean hashes anything: it is a label: what it is worth is what the hold of that sum in a sandbox is worth. -/
noncomputable def Try.pinned : Pinned := { name := "ytedbbpefogcjnaa", sum := "3499d22e9771e6047c6c7bd1ce66f7b16667a3c0dc0d859f3f331f6d3376008b", checked := Try.checked }
namespace Rows
def none {H : Type} : Left H := { results := [], args := [] }

/-- 'bellmanlaw03.BlockCrash': WHATEVER THE INPUT: true; the input reads as it did. -/
def blockCrashSpec : ChangeSpec := { name := "blockCrash", fn := fun _ => fun
  | [d1, d2, d3] => { results := [.lit (.bool true)], args := [d1, d2, d3] }
  | _ => none }
def blockCrashRow : OpenClaim := { program := "ytedbbpefogcjnaa", sum := "3499d22e9771e6047c6c7bd1ce66f7b16667a3c0dc0d859f3f331f6d3376008b", func := "bellman/bellmanlaw03.BlockCrash", spec := "blockCrash", inPlace := ["internal/abi.NoEscape", "internal/bytealg.MakeNoZero"], unfollowed := true, recurses := true, apart := false }
def BlockCrashSaid : Prop := blockCrashRow.holds Try.pinned (OpenSpec.ofChange blockCrashSpec)

/-- ITS FALSE NEIGHBOUR: 'it returns false'. Refute it at one input. -/
def blockCrashWrong : ChangeSpec := { name := "blockCrash", fn := fun _ => fun
  | [d1, d2, d3] => { results := [.lit (.bool false)], args := [d1, d2, d3] }
  | _ => none }
def BlockCrashWrongFalsely : Prop := blockCrashRow.holds Try.pinned (OpenSpec.ofChange blockCrashWrong)

/-- 'bellmanlaw03.BlockSafe': WHATEVER THE INPUT: true; the input reads as it did. -/
def blockSafeSpec : ChangeSpec := { name := "blockSafe", fn := fun _ => fun
  | [d1, d2, d3, d4] => { results := [.lit (.bool true)], args := [d1, d2, d3, d4] }
  | _ => none }
def blockSafeRow : OpenClaim := { program := "ytedbbpefogcjnaa", sum := "3499d22e9771e6047c6c7bd1ce66f7b16667a3c0dc0d859f3f331f6d3376008b", func := "bellman/bellmanlaw03.BlockSafe", spec := "blockSafe", inPlace := ["internal/abi.NoEscape", "internal/bytealg.MakeNoZero"], unfollowed := true, recurses := true, apart := false }
def BlockSafeSaid : Prop := blockSafeRow.holds Try.pinned (OpenSpec.ofChange blockSafeSpec)

/-- ITS FALSE NEIGHBOUR: 'it returns false'. Refute it at one input. -/
def blockSafeWrong : ChangeSpec := { name := "blockSafe", fn := fun _ => fun
  | [d1, d2, d3, d4] => { results := [.lit (.bool false)], args := [d1, d2, d3, d4] }
  | _ => none }
def BlockSafeWrongFalsely : Prop := blockSafeRow.holds Try.pinned (OpenSpec.ofChange blockSafeWrong)

/-- 'bellmanlaw03.BlockTorn': WHATEVER THE INPUT: true; the input reads as it did. -/
def blockTornSpec : ChangeSpec := { name := "blockTorn", fn := fun _ => fun
  | [d1, d2, d3, d4] => { results := [.lit (.bool true)], args := [d1, d2, d3, d4] }
  | _ => none }
def blockTornRow : OpenClaim := { program := "ytedbbpefogcjnaa", sum := "3499d22e9771e6047c6c7bd1ce66f7b16667a3c0dc0d859f3f331f6d3376008b", func := "bellman/bellmanlaw03.BlockTorn", spec := "blockTorn", inPlace := ["internal/abi.NoEscape", "internal/bytealg.MakeNoZero"], unfollowed := true, recurses := true, apart := false }
def BlockTornSaid : Prop := blockTornRow.holds Try.pinned (OpenSpec.ofChange blockTornSpec)

/-- ITS FALSE NEIGHBOUR: 'it returns false'. Refute it at one input. -/
def blockTornWrong : ChangeSpec := { name := "blockTorn", fn := fun _ => fun
  | [d1, d2, d3, d4] => { results := [.lit (.bool false)], args := [d1, d2, d3, d4] }
  | _ => none }
def BlockTornWrongFalsely : Prop := blockTornRow.holds Try.pinned (OpenSpec.ofChange blockTornWrong)

/-- 'bellmanlaw03.BlockRead': WHATEVER THE INPUT: true; the input reads as it did. -/
def blockReadSpec : ChangeSpec := { name := "blockRead", fn := fun _ => fun
  | [d1, d2, d3, d4] => { results := [.lit (.bool true)], args := [d1, d2, d3, d4] }
  | _ => none }
def blockReadRow : OpenClaim := { program := "ytedbbpefogcjnaa", sum := "3499d22e9771e6047c6c7bd1ce66f7b16667a3c0dc0d859f3f331f6d3376008b", func := "bellman/bellmanlaw03.BlockRead", spec := "blockRead", inPlace := ["internal/abi.NoEscape", "internal/bytealg.MakeNoZero"], unfollowed := true, recurses := true, apart := false }
def BlockReadSaid : Prop := blockReadRow.holds Try.pinned (OpenSpec.ofChange blockReadSpec)

/-- ITS FALSE NEIGHBOUR: 'it returns false'. Refute it at one input. -/
def blockReadWrong : ChangeSpec := { name := "blockRead", fn := fun _ => fun
  | [d1, d2, d3, d4] => { results := [.lit (.bool false)], args := [d1, d2, d3, d4] }
  | _ => none }
def BlockReadWrongFalsely : Prop := blockReadRow.holds Try.pinned (OpenSpec.ofChange blockReadWrong)

/- THE SECOND FORM. 'bulk': how many values and letters a reading holds, each counted each time it is reached (what is shared counts as often as it is met; a slice's spare places count too). A statement '..UptoSaid' is the law's where the arguments, and the package variables that the reading takes, are together of bulk at most 1048576: NARROWER than '..Said'. Prove '..Said' where nothing that the law and all that it calls make is longer than what came in: it says more and counts as full. Else prove '..UptoSaid'. A law counts once. -/
mutual
def uptoBulk {H : Type} : DataW H → Nat
  | .lit (.string bytes) => bytes.length + 1
  | .lit _ => 1
  | .nil => 1
  | .ptr d => uptoBulk d + 1
  | .slice elems spare => uptoBulkAll elems + uptoBulkAll spare + 1
  | .agg parts => uptoBulkAll parts + 1
  | .iface _ d => uptoBulk d + 1
  | .map entries => uptoBulkEntries entries + 1
  | .held _ => 1
def uptoBulkAll {H : Type} : List (DataW H) → Nat
  | [] => 0
  | d :: r => uptoBulk d + uptoBulkAll r
def uptoBulkEntries {H : Type} : List (Lit × DataW H) → Nat
  | [] => 0
  | x :: r => uptoBulkEntry x + uptoBulkEntries r
def uptoBulkEntry {H : Type} : Lit × DataW H → Nat
  | (.string bytes, d) => bytes.length + uptoBulk d + 1
  | (_, d) => uptoBulk d + 1
 end
def uptoSmall : (H : Type) → List (DataW H) → Bool := fun _ ds => decide (uptoBulkAll ds ≤ 1048576)
def OpenSpec.upto (s : _root_.Go.ChangeSpec) : _root_.Go.OpenSpec := { _root_.Go.OpenSpec.ofChange s with cond := some uptoSmall }

/-- 'bellmanlaw03.BlockCrash', WHERE WHAT IT READS IS OF BULK AT MOST 1048576: true; the input reads as it did. -/
def blockCrashUptoRow : OpenClaim := { program := "ytedbbpefogcjnaa", sum := "3499d22e9771e6047c6c7bd1ce66f7b16667a3c0dc0d859f3f331f6d3376008b", func := "bellman/bellmanlaw03.BlockCrash", spec := "blockCrash", inPlace := ["internal/abi.NoEscape", "internal/bytealg.MakeNoZero"], unfollowed := true, recurses := true, apart := false, narrowed := true }
def BlockCrashUptoSaid : Prop := blockCrashUptoRow.holds Try.pinned (OpenSpec.upto blockCrashSpec)

/-- 'bellmanlaw03.BlockSafe', WHERE WHAT IT READS IS OF BULK AT MOST 1048576: true; the input reads as it did. -/
def blockSafeUptoRow : OpenClaim := { program := "ytedbbpefogcjnaa", sum := "3499d22e9771e6047c6c7bd1ce66f7b16667a3c0dc0d859f3f331f6d3376008b", func := "bellman/bellmanlaw03.BlockSafe", spec := "blockSafe", inPlace := ["internal/abi.NoEscape", "internal/bytealg.MakeNoZero"], unfollowed := true, recurses := true, apart := false, narrowed := true }
def BlockSafeUptoSaid : Prop := blockSafeUptoRow.holds Try.pinned (OpenSpec.upto blockSafeSpec)

/-- 'bellmanlaw03.BlockTorn', WHERE WHAT IT READS IS OF BULK AT MOST 1048576: true; the input reads as it did. -/
def blockTornUptoRow : OpenClaim := { program := "ytedbbpefogcjnaa", sum := "3499d22e9771e6047c6c7bd1ce66f7b16667a3c0dc0d859f3f331f6d3376008b", func := "bellman/bellmanlaw03.BlockTorn", spec := "blockTorn", inPlace := ["internal/abi.NoEscape", "internal/bytealg.MakeNoZero"], unfollowed := true, recurses := true, apart := false, narrowed := true }
def BlockTornUptoSaid : Prop := blockTornUptoRow.holds Try.pinned (OpenSpec.upto blockTornSpec)

/-- 'bellmanlaw03.BlockRead', WHERE WHAT IT READS IS OF BULK AT MOST 1048576: true; the input reads as it did. -/
def blockReadUptoRow : OpenClaim := { program := "ytedbbpefogcjnaa", sum := "3499d22e9771e6047c6c7bd1ce66f7b16667a3c0dc0d859f3f331f6d3376008b", func := "bellman/bellmanlaw03.BlockRead", spec := "blockRead", inPlace := ["internal/abi.NoEscape", "internal/bytealg.MakeNoZero"], unfollowed := true, recurses := true, apart := false, narrowed := true }
def BlockReadUptoSaid : Prop := blockReadUptoRow.holds Try.pinned (OpenSpec.upto blockReadSpec)

end Rows
end Go.Proofs.Ytedbbpefogcjnaa
