-- by a program of this session
import Derived.Test.YtedbbpefogcjnaaXB9
set_option linter.unusedVariables false
set_option linter.unusedSimpArgs false
/-! The document's own sample of a device, reckoned. -/
namespace Go.Proofs.Ytedbbpefogcjnaa.XB
set_option maxRecDepth 100000 in
theorem dev_lives : bellmanlaw03_lives.f = some true := by decide +kernel
end Go.Proofs.Ytedbbpefogcjnaa.XB
