-- by a program of this session
import Derived.Test.YtcblmfcgjemgkaaDoorXS14
set_option linter.unusedVariables false
set_option linter.unusedSimpArgs false
/-! What the document gives as answers: reckoned out. -/
namespace Go.Proofs.YtcblmfcgjemgkaaDoor.XS
open Go.RowKit Go.Proofs.YtcblmfcgjemgkaaDoorW.PrintWords Go.Proofs.YtcblmfcgjemgkaaDoorW.PrintLast Go.Proofs.YtcblmfcgjemgkaaDoorW.PrintMore
theorem scan_lives_at : bellmanlaw10_lives.f 60 = some true := by decide +kernel
theorem scan_lives : Ev (fun k => bellmanlaw10_lives.f k) true := Ev.of (fun k => bellmanlaw10_lives.mono k) scan_lives_at
end Go.Proofs.YtcblmfcgjemgkaaDoor.XS
