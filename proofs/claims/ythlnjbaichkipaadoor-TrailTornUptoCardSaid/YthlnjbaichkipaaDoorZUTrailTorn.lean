-- by px.py, a program of this session
import Derived.Test.YthlnjbaichkipaaDoorZXR16
set_option linter.unusedVariables false
namespace Go.Proofs.YthlnjbaichkipaaDoor.XR
open Go.RowKit Go.Proofs.YthlnjbaichkipaaDoorW.PrintWords Go.Proofs.YthlnjbaichkipaaDoorW.PrintLast Go.Proofs.YthlnjbaichkipaaDoorW.PrintMore
def bellmanlaw04_TrailTorn.PureU : Prop := ∀ (l0 : List ByteArray) (a1 : ByteArray) (a2 : Int) (l3 : List Int), (∀ _x ∈ l0, True) → (Lit.int .i64 a2).wf = true → (∀ x ∈ l3, (Lit.int .i64 x).wf = true) → ((l0.map (fun x => (x.size + 1))).sum + 1) + (a1.size + 1) + 1 + ((l3.map (fun _ => 1)).sum + 1) ≤ 1048576 → ∃ k, bellmanlaw04_TrailTorn.f k l0 a1 a2 l3 = some true
end Go.Proofs.YthlnjbaichkipaaDoor.XR
