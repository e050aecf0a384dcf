-- by px.py, a program of this session
import Derived.Test.YthlnjbaichkipaaDoorXR15
set_option linter.unusedVariables false
namespace Go.Proofs.YthlnjbaichkipaaDoor.XR
open Go.RowKit Go.Proofs.YthlnjbaichkipaaDoorW.PrintWords Go.Proofs.YthlnjbaichkipaaDoorW.PrintLast Go.Proofs.YthlnjbaichkipaaDoorW.PrintMore
/-- THE ONE PURE STATEMENT of bellmanlaw04_TrailBack. -/
def bellmanlaw04_TrailBack.PureU : Prop := ∀ (a0 : S25) (a1 : Int) (a2 : Int) (a3 : ByteArray) (a4 : Int), ((∀ _x ∈ a0.f0, True) ∧ ((∀ x ∈ a0.f1, ((Lit.int .i64 x.f0).wf = true ∧ True)) ∧ ((Lit.int .i64 a0.f2).wf = true ∧ True))) → (Lit.int .i64 a1).wf = true → (Lit.int .i64 a2).wf = true → (Lit.int .i64 a4).wf = true → ((((a0.f0.map (fun x => (x.size + 1))).sum + 1) + (((a0.f1.map (fun x => ((1 + (x.f1.size + 1)) + 1))).sum + 1) + (1 + 1))) + 1) + 1 + 1 + (a3.size + 1) + 1 ≤ 1048576 → ∃ k, bellmanlaw04_TrailBack.f k a0.f0 a0.f1 a0.f2 a0.f3 a1 a2 a3 a4 = some true
end Go.Proofs.YthlnjbaichkipaaDoor.XR
