-- of the words that the kit printed, those that this claim uses (pruned by a program of this session)
import Derived.Test.YthlnjbaichkipaaDoorZWWords
import Derived.Laws.StructEq
namespace Go.Proofs.YthlnjbaichkipaaDoorW.PrintWords
open Go.RowKit
section
variable {P : Program} {d : Nat} {xs ys : Array Value} {f : Field} {fs : List Field} {a b : Value} {r s : Bool} {w : World}
end
end Go.Proofs.YthlnjbaichkipaaDoorW.PrintWords
