/-
  No cell of these rows narrows 'for every input' (looked for: loops, veiled, ifaces, maps, wideKeys, modest, calm, conditions, laid).
  DERIVED. THE GIVEN ROWS OF THIS SEAT. 5 by the template 'for every input the law returns true; each argument reads behind the call as it read before'; 0 by the template 'total and deterministic' (their statements: YtlnadfhhgcpkpaaTotals.lean).
  GIVEN WITH THE SEED: the statements are not yours to turn. If you find one false, say at which input.
  Laid BY PROGRAM, IN A SANDBOX (cutbox-rows.mjs): the forced cells as the released guide's own fill.sh prints them over the translation 24c8bac8bd67fc2b… (all of the seat's roots in one cut). By AI agents, Wed Nov 11 2026. No macro, syntax, notation, axiom, sorry.
-/
import Derived.Test.YtlnadfhhgcpkpaaChecked
import GoSem.Claim
import GoSem.ClaimJoined
import GoSem.ClaimMapViews
import Derived.JoinedTies
import Derived.KernelRfl
namespace Go.Proofs.Ytlnadfhhgcpkpaa
/- THE CELL 'sum', in the pinned program and in every row, IS THE sha256 OF THE DUMP (.gsa) THAT YtlnadfhhgcpkpaaProg.lean LOADS. Nothing in Lean hashes anything: it is a label: what it is worth is what the hold of that sum in a sandbox is worth. -/
noncomputable def Try.pinned : Pinned := { name := "ytlnadfhhgcpkpaa", sum := "24c8bac8bd67fc2b41c2092971ee16b7dddea8adf5429a5dddb2813c7bc0e6d3", checked := Try.checked }
namespace Rows
def none {H : Type} : Left H := { results := [], args := [] }

/-- 'bellmanlaw07.WeekMakes': WHATEVER THE INPUT: true; the input reads as it did. -/
def weekMakesSpec : ChangeSpec := { name := "weekMakes", fn := fun _ => fun
  | [d1, d2, d3, d4] => { results := [.lit (.bool true)], args := [d1, d2, d3, d4] }
  | _ => none }
def weekMakesRow : OpenClaim := { program := "ytlnadfhhgcpkpaa", sum := "24c8bac8bd67fc2b41c2092971ee16b7dddea8adf5429a5dddb2813c7bc0e6d3", func := "bellman/bellmanlaw07.WeekMakes", spec := "weekMakes", unfollowed := true, recurses := true, apart := false }
def WeekMakesSaid : Prop := weekMakesRow.holds Try.pinned (OpenSpec.ofChange weekMakesSpec)

/-- ITS FALSE NEIGHBOUR: 'it returns false'. Refute it at one input. -/
def weekMakesWrong : ChangeSpec := { name := "weekMakes", fn := fun _ => fun
  | [d1, d2, d3, d4] => { results := [.lit (.bool false)], args := [d1, d2, d3, d4] }
  | _ => none }
def WeekMakesWrongFalsely : Prop := weekMakesRow.holds Try.pinned (OpenSpec.ofChange weekMakesWrong)

/-- 'bellmanlaw07.WeekSets': WHATEVER THE INPUT: true; the input reads as it did. -/
def weekSetsSpec : ChangeSpec := { name := "weekSets", fn := fun _ => fun
  | [d1, d2] => { results := [.lit (.bool true)], args := [d1, d2] }
  | _ => none }
def weekSetsRow : OpenClaim := { program := "ytlnadfhhgcpkpaa", sum := "24c8bac8bd67fc2b41c2092971ee16b7dddea8adf5429a5dddb2813c7bc0e6d3", func := "bellman/bellmanlaw07.WeekSets", spec := "weekSets", unfollowed := true, recurses := true, apart := false }
def WeekSetsSaid : Prop := weekSetsRow.holds Try.pinned (OpenSpec.ofChange weekSetsSpec)

/-- ITS FALSE NEIGHBOUR: 'it returns false'. Refute it at one input. -/
def weekSetsWrong : ChangeSpec := { name := "weekSets", fn := fun _ => fun
  | [d1, d2] => { results := [.lit (.bool false)], args := [d1, d2] }
  | _ => none }
def WeekSetsWrongFalsely : Prop := weekSetsRow.holds Try.pinned (OpenSpec.ofChange weekSetsWrong)

/-- 'bellmanlaw07.WeekHas': WHATEVER THE INPUT: true; the input reads as it did. -/
def weekHasSpec : ChangeSpec := { name := "weekHas", fn := fun _ => fun
  | [d1, d2, d3, d4] => { results := [.lit (.bool true)], args := [d1, d2, d3, d4] }
  | _ => none }
def weekHasRow : OpenClaim := { program := "ytlnadfhhgcpkpaa", sum := "24c8bac8bd67fc2b41c2092971ee16b7dddea8adf5429a5dddb2813c7bc0e6d3", func := "bellman/bellmanlaw07.WeekHas", spec := "weekHas", unfollowed := true, recurses := true, apart := false }
def WeekHasSaid : Prop := weekHasRow.holds Try.pinned (OpenSpec.ofChange weekHasSpec)

/-- ITS FALSE NEIGHBOUR: 'it returns false'. Refute it at one input. -/
def weekHasWrong : ChangeSpec := { name := "weekHas", fn := fun _ => fun
  | [d1, d2, d3, d4] => { results := [.lit (.bool false)], args := [d1, d2, d3, d4] }
  | _ => none }
def WeekHasWrongFalsely : Prop := weekHasRow.holds Try.pinned (OpenSpec.ofChange weekHasWrong)

/-- 'bellmanlaw07.WeekTwice': WHATEVER THE INPUT: true; the input reads as it did. -/
def weekTwiceSpec : ChangeSpec := { name := "weekTwice", fn := fun _ => fun
  | [d] => { results := [.lit (.bool true)], args := [d] }
  | _ => none }
def weekTwiceRow : OpenClaim := { program := "ytlnadfhhgcpkpaa", sum := "24c8bac8bd67fc2b41c2092971ee16b7dddea8adf5429a5dddb2813c7bc0e6d3", func := "bellman/bellmanlaw07.WeekTwice", spec := "weekTwice", unfollowed := true, recurses := true, apart := false }
def WeekTwiceSaid : Prop := weekTwiceRow.holds Try.pinned (OpenSpec.ofChange weekTwiceSpec)

/-- ITS FALSE NEIGHBOUR: 'it returns false'. Refute it at one input. -/
def weekTwiceWrong : ChangeSpec := { name := "weekTwice", fn := fun _ => fun
  | [d] => { results := [.lit (.bool false)], args := [d] }
  | _ => none }
def WeekTwiceWrongFalsely : Prop := weekTwiceRow.holds Try.pinned (OpenSpec.ofChange weekTwiceWrong)

/-- 'bellmanlaw07.WeekNext': WHATEVER THE INPUT: true; the input reads as it did. -/
def weekNextSpec : ChangeSpec := { name := "weekNext", fn := fun _ => fun
  | [d1, d2, d3, d4] => { results := [.lit (.bool true)], args := [d1, d2, d3, d4] }
  | _ => none }
def weekNextRow : OpenClaim := { program := "ytlnadfhhgcpkpaa", sum := "24c8bac8bd67fc2b41c2092971ee16b7dddea8adf5429a5dddb2813c7bc0e6d3", func := "bellman/bellmanlaw07.WeekNext", spec := "weekNext", unfollowed := true, recurses := true, apart := false }
def WeekNextSaid : Prop := weekNextRow.holds Try.pinned (OpenSpec.ofChange weekNextSpec)

/-- ITS FALSE NEIGHBOUR: 'it returns false'. Refute it at one input. -/
def weekNextWrong : ChangeSpec := { name := "weekNext", fn := fun _ => fun
  | [d1, d2, d3, d4] => { results := [.lit (.bool false)], args := [d1, d2, d3, d4] }
  | _ => none }
def WeekNextWrongFalsely : Prop := weekNextRow.holds Try.pinned (OpenSpec.ofChange weekNextWrong)

/- THE SECOND FORM. 'bulk': how many values and letters a reading holds, each counted each time it is reached (what is shared counts as often as it is met; a slice's spare places count too). A statement '..UptoSaid' is the law's where the arguments, and the package variables that the reading takes, are together of bulk at most 1048576: NARROWER than '..Said'. Prove '..Said' where nothing that the law and all that it calls make is longer than what came in: it says more and counts as full. Else prove '..UptoSaid'. A law counts once. -/
mutual
def uptoBulk {H : Type} : DataW H → Nat
  | .lit (.string bytes) => bytes.length + 1
  | .lit _ => 1
  | .nil => 1
  | .ptr d => uptoBulk d + 1
  | .slice elems spare => uptoBulkAll elems + uptoBulkAll spare + 1
  | .agg parts => uptoBulkAll parts + 1
  | .iface _ d => uptoBulk d + 1
  | .map entries => uptoBulkEntries entries + 1
  | .held _ => 1
def uptoBulkAll {H : Type} : List (DataW H) → Nat
  | [] => 0
  | d :: r => uptoBulk d + uptoBulkAll r
def uptoBulkEntries {H : Type} : List (Lit × DataW H) → Nat
  | [] => 0
  | x :: r => uptoBulkEntry x + uptoBulkEntries r
def uptoBulkEntry {H : Type} : Lit × DataW H → Nat
  | (.string bytes, d) => bytes.length + uptoBulk d + 1
  | (_, d) => uptoBulk d + 1
 end
def uptoSmall : (H : Type) → List (DataW H) → Bool := fun _ ds => decide (uptoBulkAll ds ≤ 1048576)
def OpenSpec.upto (s : _root_.Go.ChangeSpec) : _root_.Go.OpenSpec := { _root_.Go.OpenSpec.ofChange s with cond := some uptoSmall }

/-- 'bellmanlaw07.WeekMakes', WHERE WHAT IT READS IS OF BULK AT MOST 1048576: true; the input reads as it did. -/
def weekMakesUptoRow : OpenClaim := { program := "ytlnadfhhgcpkpaa", sum := "24c8bac8bd67fc2b41c2092971ee16b7dddea8adf5429a5dddb2813c7bc0e6d3", func := "bellman/bellmanlaw07.WeekMakes", spec := "weekMakes", unfollowed := true, recurses := true, apart := false, narrowed := true }
def WeekMakesUptoSaid : Prop := weekMakesUptoRow.holds Try.pinned (OpenSpec.upto weekMakesSpec)

/-- 'bellmanlaw07.WeekSets', WHERE WHAT IT READS IS OF BULK AT MOST 1048576: true; the input reads as it did. -/
def weekSetsUptoRow : OpenClaim := { program := "ytlnadfhhgcpkpaa", sum := "24c8bac8bd67fc2b41c2092971ee16b7dddea8adf5429a5dddb2813c7bc0e6d3", func := "bellman/bellmanlaw07.WeekSets", spec := "weekSets", unfollowed := true, recurses := true, apart := false, narrowed := true }
def WeekSetsUptoSaid : Prop := weekSetsUptoRow.holds Try.pinned (OpenSpec.upto weekSetsSpec)

/-- 'bellmanlaw07.WeekHas', WHERE WHAT IT READS IS OF BULK AT MOST 1048576: true; the input reads as it did. -/
def weekHasUptoRow : OpenClaim := { program := "ytlnadfhhgcpkpaa", sum := "24c8bac8bd67fc2b41c2092971ee16b7dddea8adf5429a5dddb2813c7bc0e6d3", func := "bellman/bellmanlaw07.WeekHas", spec := "weekHas", unfollowed := true, recurses := true, apart := false, narrowed := true }
def WeekHasUptoSaid : Prop := weekHasUptoRow.holds Try.pinned (OpenSpec.upto weekHasSpec)

/-- 'bellmanlaw07.WeekTwice', WHERE WHAT IT READS IS OF BULK AT MOST 1048576: true; the input reads as it did. -/
def weekTwiceUptoRow : OpenClaim := { program := "ytlnadfhhgcpkpaa", sum := "24c8bac8bd67fc2b41c2092971ee16b7dddea8adf5429a5dddb2813c7bc0e6d3", func := "bellman/bellmanlaw07.WeekTwice", spec := "weekTwice", unfollowed := true, recurses := true, apart := false, narrowed := true }
def WeekTwiceUptoSaid : Prop := weekTwiceUptoRow.holds Try.pinned (OpenSpec.upto weekTwiceSpec)

/-- 'bellmanlaw07.WeekNext', WHERE WHAT IT READS IS OF BULK AT MOST 1048576: true; the input reads as it did. -/
def weekNextUptoRow : OpenClaim := { program := "ytlnadfhhgcpkpaa", sum := "24c8bac8bd67fc2b41c2092971ee16b7dddea8adf5429a5dddb2813c7bc0e6d3", func := "bellman/bellmanlaw07.WeekNext", spec := "weekNext", unfollowed := true, recurses := true, apart := false, narrowed := true }
def WeekNextUptoSaid : Prop := weekNextUptoRow.holds Try.pinned (OpenSpec.upto weekNextSpec)

end Rows
end Go.Proofs.Ytlnadfhhgcpkpaa
