-- by px.py, a program of this session
import Derived.Test.YtedbbpefogcjnaaXB11
set_option linter.unusedVariables false
namespace Go.Proofs.Ytedbbpefogcjnaa.XB
open Go.RowKit Go.Proofs.YtedbbpefogcjnaaW.PrintWords Go.Proofs.YtedbbpefogcjnaaW.PrintLast Go.Proofs.YtedbbpefogcjnaaW.PrintMore
/-- THE ONE PURE STATEMENT of bellmanlaw03_BlockCrash. -/
def bellmanlaw03_BlockCrash.PureU : Prop := ∀ (a0 : S25) (a1 : S25) (l2 : List Int), ((∀ _x ∈ a0.f0, True) ∧ ((∀ x ∈ a0.f1, ((Lit.int .i64 x.f0).wf = true ∧ True)) ∧ ((Lit.int .i64 a0.f2).wf = true ∧ True))) → ((∀ _x ∈ a1.f0, True) ∧ ((∀ x ∈ a1.f1, ((Lit.int .i64 x.f0).wf = true ∧ True)) ∧ ((Lit.int .i64 a1.f2).wf = true ∧ True))) → (∀ x ∈ l2, (Lit.int .i64 x).wf = true) → ((((a0.f0.map (fun x => (x.size + 1))).sum + 1) + (((a0.f1.map (fun x => ((1 + (x.f1.size + 1)) + 1))).sum + 1) + (1 + 1))) + 1) + ((((a1.f0.map (fun x => (x.size + 1))).sum + 1) + (((a1.f1.map (fun x => ((1 + (x.f1.size + 1)) + 1))).sum + 1) + (1 + 1))) + 1) + ((l2.map (fun _ => 1)).sum + 1) ≤ 1048576 → ∃ k, bellmanlaw03_BlockCrash.f k a0.f0 a0.f1 a0.f2 a0.f3 a1.f0 a1.f1 a1.f2 a1.f3 l2 = some true
end Go.Proofs.Ytedbbpefogcjnaa.XB
