-- by px.py, a program of this session
import Derived.Test.YtcblmfcgjemgkaaDoorXS19
set_option linter.unusedVariables false
namespace Go.Proofs.YtcblmfcgjemgkaaDoor.XS
open Go.RowKit Go.Proofs.YtcblmfcgjemgkaaDoorW.PrintWords Go.Proofs.YtcblmfcgjemgkaaDoorW.PrintLast Go.Proofs.YtcblmfcgjemgkaaDoorW.PrintMore
/-- THE ONE PURE STATEMENT of bellmanlaw10_ScanWrites. -/
def bellmanlaw10_ScanWrites.PureU : Prop := ∀ (l0 : List S40), (∀ x ∈ l0, ((Lit.int .u8 x.f0).wf = true ∧ (True ∧ (∀ _x ∈ x.f2, True)))) → ((l0.map (fun x => ((1 + ((x.f1.size + 1) + ((x.f2.map (fun x => (x.size + 1))).sum + 1))) + 1))).sum + 1) ≤ 1048576 → ∃ k, bellmanlaw10_ScanWrites.f k l0 = some true
end Go.Proofs.YtcblmfcgjemgkaaDoor.XS
