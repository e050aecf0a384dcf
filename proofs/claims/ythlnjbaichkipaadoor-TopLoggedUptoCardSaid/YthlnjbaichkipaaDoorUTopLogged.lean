-- by px.py, a program of this session
import Derived.Test.YthlnjbaichkipaaDoorXR19
set_option linter.unusedVariables false
namespace Go.Proofs.YthlnjbaichkipaaDoor.XR
open Go.RowKit Go.Proofs.YthlnjbaichkipaaDoorW.PrintWords Go.Proofs.YthlnjbaichkipaaDoorW.PrintLast Go.Proofs.YthlnjbaichkipaaDoorW.PrintMore
/-- THE ONE PURE STATEMENT of bellmantop_TopLogged. -/
def bellmantop_TopLogged.PureU : Prop := ∀ (l0 : List ByteArray) (a1 : ByteArray) (l2 : List Int), (∀ _x ∈ l0, True) → (∀ x ∈ l2, (Lit.int .i64 x).wf = true) → ((l0.map (fun x => (x.size + 1))).sum + 1) + (a1.size + 1) + ((l2.map (fun _ => 1)).sum + 1) ≤ 1048576 → ∃ k, bellmantop_TopLogged.f k l0 a1 l2 = some true
end Go.Proofs.YthlnjbaichkipaaDoor.XR
