-- by px.py, a program of this session
import Derived.Test.YtgcilfpoblijnaaXL6
set_option linter.unusedVariables false
namespace Go.Proofs.Ytgcilfpoblijnaa.XL
open Go.RowKit Go.Proofs.YtgcilfpoblijnaaW.PrintWords Go.Proofs.YtgcilfpoblijnaaW.PrintLast Go.Proofs.YtgcilfpoblijnaaW.PrintMore
/-- THE ONE PURE STATEMENT of bellmanlaw01_WireMany. -/
def bellmanlaw01_WireMany.PureU : Prop := ∀ (l0 : List Int) (l1 : List ByteArray) (a2 : ByteArray), (∀ x ∈ l0, (Lit.int .i64 x).wf = true) → (∀ _x ∈ l1, True) → ((l0.map (fun _ => 1)).sum + 1) + ((l1.map (fun x => (x.size + 1))).sum + 1) + (a2.size + 1) ≤ 1048576 → ∃ k, bellmanlaw01_WireMany.f k l0 l1 a2 = some true
end Go.Proofs.Ytgcilfpoblijnaa.XL
