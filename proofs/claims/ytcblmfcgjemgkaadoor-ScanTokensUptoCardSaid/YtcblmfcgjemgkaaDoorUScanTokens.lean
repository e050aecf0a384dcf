-- by px.py, a program of this session
import Derived.Test.YtcblmfcgjemgkaaDoorXS16
set_option linter.unusedVariables false
namespace Go.Proofs.YtcblmfcgjemgkaaDoor.XS
open Go.RowKit Go.Proofs.YtcblmfcgjemgkaaDoorW.PrintWords Go.Proofs.YtcblmfcgjemgkaaDoorW.PrintLast Go.Proofs.YtcblmfcgjemgkaaDoorW.PrintMore
/-- THE ONE PURE STATEMENT of bellmanlaw10_ScanTokens. -/
def bellmanlaw10_ScanTokens.PureU : Prop := ∀ (a0 : ByteArray) (a1 : ByteArray), (a0.size + 1) + (a1.size + 1) ≤ 1048576 → ∃ k, bellmanlaw10_ScanTokens.f k a0 a1 = some true
end Go.Proofs.YtcblmfcgjemgkaaDoor.XS
