-- by px.py, a program of this session
import Derived.Test.YtlpbolkbdcgmnaaXD20
set_option linter.unusedVariables false
namespace Go.Proofs.Ytlpbolkbdcgmnaa.XD
open Go.RowKit Go.Proofs.YtlpbolkbdcgmnaaW.PrintWords Go.Proofs.YtlpbolkbdcgmnaaW.PrintLast Go.Proofs.YtlpbolkbdcgmnaaW.PrintMore
/-- THE ONE PURE STATEMENT of bellmanlaw16_DueCleared. -/
def bellmanlaw16_DueCleared.PureU : Prop := ∀ (l0 : List S29) (a1 : Int) (a2 : Int) (a3 : Int), (∀ x ∈ l0, ((Lit.int .i64 x.f0).wf = true ∧ ((Lit.int .i64 x.f1).wf = true ∧ ((Lit.int .u8 x.f2).wf = true ∧ (Lit.int .i64 x.f3).wf = true)))) → (Lit.int .u8 a1).wf = true → (Lit.int .u8 a2).wf = true → (Lit.int .i64 a3).wf = true → ((l0.map (fun _ => ((1 + (1 + (1 + 1))) + 1))).sum + 1) + 1 + 1 + 1 ≤ 1048576 → ∃ k, bellmanlaw16_DueCleared.f k l0 a1 a2 a3 = some true
end Go.Proofs.Ytlpbolkbdcgmnaa.XD
