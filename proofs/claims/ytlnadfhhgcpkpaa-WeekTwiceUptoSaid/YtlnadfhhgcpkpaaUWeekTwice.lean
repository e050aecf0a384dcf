-- by px.py, a program of this session
import Derived.Test.YtlnadfhhgcpkpaaXW22
set_option linter.unusedVariables false
namespace Go.Proofs.Ytlnadfhhgcpkpaa.XW
open Go.RowKit Go.Proofs.YtlnadfhhgcpkpaaW.PrintWords Go.Proofs.YtlnadfhhgcpkpaaW.PrintLast Go.Proofs.YtlnadfhhgcpkpaaW.PrintMore
/-- THE ONE PURE STATEMENT of bellmanlaw07_WeekTwice. -/
def bellmanlaw07_WeekTwice.PureU : Prop := ∀ (l0 : List S38), (∀ x ∈ l0, ((Lit.int .i64 x.f0).wf = true ∧ (Lit.int .i64 x.f1).wf = true)) → ((l0.map (fun _ => ((1 + 1) + 1))).sum + 1) ≤ 1048576 → ∃ k, bellmanlaw07_WeekTwice.f k l0 = some true
end Go.Proofs.Ytlnadfhhgcpkpaa.XW
