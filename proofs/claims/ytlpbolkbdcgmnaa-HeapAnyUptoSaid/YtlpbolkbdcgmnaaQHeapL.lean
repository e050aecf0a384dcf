-- by a program of this session
import Derived.Test.YtlpbolkbdcgmnaaXH9
set_option linter.unusedVariables false
set_option linter.unusedSimpArgs false
/-! The answers that the statements of heaps ask for first. -/
namespace Go.Proofs.Ytlpbolkbdcgmnaa.XH
open Go.RowKit Go.Proofs.YtlpbolkbdcgmnaaW.PrintWords Go.Proofs.YtlpbolkbdcgmnaaW.PrintLast Go.Proofs.YtlpbolkbdcgmnaaW.PrintMore
theorem lives_100 : bellmanlaw15_lives.f 30 = some true := by decide +kernel
theorem lives_ev : Ev bellmanlaw15_lives.f true := Ev.of (fun k => bellmanlaw15_lives.mono k) lives_100
end Go.Proofs.Ytlpbolkbdcgmnaa.XH
