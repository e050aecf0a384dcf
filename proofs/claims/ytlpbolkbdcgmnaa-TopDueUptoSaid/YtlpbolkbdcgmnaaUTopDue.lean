-- by px.py, a program of this session
import Derived.Test.YtlpbolkbdcgmnaaXD24
set_option linter.unusedVariables false
namespace Go.Proofs.Ytlpbolkbdcgmnaa.XD
open Go.RowKit Go.Proofs.YtlpbolkbdcgmnaaW.PrintWords Go.Proofs.YtlpbolkbdcgmnaaW.PrintLast Go.Proofs.YtlpbolkbdcgmnaaW.PrintMore
/-- THE ONE PURE STATEMENT of bellmantop_TopDue. -/
def bellmantop_TopDue.PureU : Prop := ∀ (l0 : List S29) (l1 : List Int) (a2 : Int), (∀ x ∈ l0, ((Lit.int .i64 x.f0).wf = true ∧ ((Lit.int .i64 x.f1).wf = true ∧ ((Lit.int .u8 x.f2).wf = true ∧ (Lit.int .i64 x.f3).wf = true)))) → (∀ x ∈ l1, (Lit.int .i64 x).wf = true) → (Lit.int .i64 a2).wf = true → ((l0.map (fun _ => ((1 + (1 + (1 + 1))) + 1))).sum + 1) + ((l1.map (fun _ => 1)).sum + 1) + 1 ≤ 1048576 → ∃ k, bellmantop_TopDue.f k l0 l1 a2 = some true
end Go.Proofs.Ytlpbolkbdcgmnaa.XD
