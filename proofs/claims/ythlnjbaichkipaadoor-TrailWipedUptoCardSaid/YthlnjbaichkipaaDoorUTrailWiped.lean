-- by px.py, a program of this session
import Derived.Test.YthlnjbaichkipaaDoorXR13
set_option linter.unusedVariables false
namespace Go.Proofs.YthlnjbaichkipaaDoor.XR
open Go.RowKit Go.Proofs.YthlnjbaichkipaaDoorW.PrintWords Go.Proofs.YthlnjbaichkipaaDoorW.PrintLast Go.Proofs.YthlnjbaichkipaaDoorW.PrintMore
/-- THE ONE PURE STATEMENT of bellmanlaw04_TrailWiped. -/
def bellmanlaw04_TrailWiped.PureU : Prop := ∀ (a0 : S25) (a1 : Int) (a2 : Int), ((∀ _x ∈ a0.f0, True) ∧ ((∀ x ∈ a0.f1, ((Lit.int .i64 x.f0).wf = true ∧ True)) ∧ ((Lit.int .i64 a0.f2).wf = true ∧ True))) → (Lit.int .i64 a1).wf = true → (Lit.int .i64 a2).wf = true → ((((a0.f0.map (fun x => (x.size + 1))).sum + 1) + (((a0.f1.map (fun x => ((1 + (x.f1.size + 1)) + 1))).sum + 1) + (1 + 1))) + 1) + 1 + 1 ≤ 1048576 → ∃ k, bellmanlaw04_TrailWiped.f k a0.f0 a0.f1 a0.f2 a0.f3 a1 a2 = some true
end Go.Proofs.YthlnjbaichkipaaDoor.XR
