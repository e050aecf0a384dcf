-- by px.py, a program of this session
import Derived.Test.YtedbbpefogcjnaaXB14
set_option linter.unusedVariables false
namespace Go.Proofs.Ytedbbpefogcjnaa.XB
open Go.RowKit Go.Proofs.YtedbbpefogcjnaaW.PrintWords Go.Proofs.YtedbbpefogcjnaaW.PrintLast Go.Proofs.YtedbbpefogcjnaaW.PrintMore
/-- THE ONE PURE STATEMENT of bellmanlaw03_BlockTorn. -/
def bellmanlaw03_BlockTorn.PureU : Prop := ∀ (a0 : S25) (a1 : Int) (a2 : ByteArray) (a3 : Int), ((∀ _x ∈ a0.f0, True) ∧ ((∀ x ∈ a0.f1, ((Lit.int .i64 x.f0).wf = true ∧ True)) ∧ ((Lit.int .i64 a0.f2).wf = true ∧ True))) → (Lit.int .i64 a1).wf = true → (Lit.int .i64 a3).wf = true → ((((a0.f0.map (fun x => (x.size + 1))).sum + 1) + (((a0.f1.map (fun x => ((1 + (x.f1.size + 1)) + 1))).sum + 1) + (1 + 1))) + 1) + 1 + (a2.size + 1) + 1 ≤ 1048576 → ∃ k, bellmanlaw03_BlockTorn.f k a0.f0 a0.f1 a0.f2 a0.f3 a1 a2 a3 = some true
end Go.Proofs.Ytedbbpefogcjnaa.XB
