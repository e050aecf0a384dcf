-- by px.py, a program of this session
import Derived.Test.YtcblmfcgjemgkaaDoorXS21
set_option linter.unusedVariables false
namespace Go.Proofs.YtcblmfcgjemgkaaDoor.XS
open Go.RowKit Go.Proofs.YtcblmfcgjemgkaaDoorW.PrintWords Go.Proofs.YtcblmfcgjemgkaaDoorW.PrintLast Go.Proofs.YtcblmfcgjemgkaaDoorW.PrintMore
/-- THE ONE PURE STATEMENT of bellmanlaw10_ScanPlain. -/
def bellmanlaw10_ScanPlain.PureU : Prop := ∀ (a0 : ByteArray), (a0.size + 1) ≤ 1048576 → ∃ k, bellmanlaw10_ScanPlain.f k a0 = some true
end Go.Proofs.YtcblmfcgjemgkaaDoor.XS
