-- by px.py, a program of this session
import Derived.Test.YtedbbpefogcjnaaXB12
set_option linter.unusedVariables false
namespace Go.Proofs.Ytedbbpefogcjnaa.XB
open Go.RowKit Go.Proofs.YtedbbpefogcjnaaW.PrintWords Go.Proofs.YtedbbpefogcjnaaW.PrintLast Go.Proofs.YtedbbpefogcjnaaW.PrintMore
/-- THE ONE PURE STATEMENT of bellmanlaw03_BlockSafe. -/
def bellmanlaw03_BlockSafe.PureU : Prop := ∀ (a0 : S25) (a1 : Int) (l2 : List S39) (l3 : List Int), ((∀ _x ∈ a0.f0, True) ∧ ((∀ x ∈ a0.f1, ((Lit.int .i64 x.f0).wf = true ∧ True)) ∧ ((Lit.int .i64 a0.f2).wf = true ∧ True))) → (Lit.int .i64 a1).wf = true → (∀ x ∈ l2, ((Lit.int .i64 x.f0).wf = true ∧ True)) → (∀ x ∈ l3, (Lit.int .i64 x).wf = true) → ((((a0.f0.map (fun x => (x.size + 1))).sum + 1) + (((a0.f1.map (fun x => ((1 + (x.f1.size + 1)) + 1))).sum + 1) + (1 + 1))) + 1) + 1 + ((l2.map (fun x => ((1 + (x.f1.size + 1)) + 1))).sum + 1) + ((l3.map (fun _ => 1)).sum + 1) ≤ 1048576 → ∃ k, bellmanlaw03_BlockSafe.f k a0.f0 a0.f1 a0.f2 a0.f3 a1 l2 l3 = some true
end Go.Proofs.Ytedbbpefogcjnaa.XB
