-- by a program of this session
import Derived.Test.YthlnjbaichkipaaDoorXR11
set_option linter.unusedVariables false
set_option linter.unusedSimpArgs false
/-! The document's own sample of a trail, reckoned. -/
namespace Go.Proofs.YthlnjbaichkipaaDoor.XR
set_option maxRecDepth 100000 in
theorem trail_lives : bellmanlaw04_lives.f = some true := by decide +kernel
end Go.Proofs.YthlnjbaichkipaaDoor.XR
