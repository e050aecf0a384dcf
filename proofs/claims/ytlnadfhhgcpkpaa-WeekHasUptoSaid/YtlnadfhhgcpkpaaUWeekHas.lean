-- by px.py, a program of this session
import Derived.Test.YtlnadfhhgcpkpaaXW24
set_option linter.unusedVariables false
namespace Go.Proofs.Ytlnadfhhgcpkpaa.XW
open Go.RowKit Go.Proofs.YtlnadfhhgcpkpaaW.PrintWords Go.Proofs.YtlnadfhhgcpkpaaW.PrintLast Go.Proofs.YtlnadfhhgcpkpaaW.PrintMore
/-- THE ONE PURE STATEMENT of bellmanlaw07_WeekHas. -/
def bellmanlaw07_WeekHas.PureU : Prop := ∀ (l0 : List S38) (l1 : List S38) (l2 : List S38) (a3 : Int), (∀ x ∈ l0, ((Lit.int .i64 x.f0).wf = true ∧ (Lit.int .i64 x.f1).wf = true)) → (∀ x ∈ l1, ((Lit.int .i64 x.f0).wf = true ∧ (Lit.int .i64 x.f1).wf = true)) → (∀ x ∈ l2, ((Lit.int .i64 x.f0).wf = true ∧ (Lit.int .i64 x.f1).wf = true)) → (Lit.int .i64 a3).wf = true → ((l0.map (fun _ => ((1 + 1) + 1))).sum + 1) + ((l1.map (fun _ => ((1 + 1) + 1))).sum + 1) + ((l2.map (fun _ => ((1 + 1) + 1))).sum + 1) + 1 ≤ 1048576 → ∃ k, bellmanlaw07_WeekHas.f k l0 l1 l2 a3 = some true
end Go.Proofs.Ytlnadfhhgcpkpaa.XW
