-- by px.py, a program of this session
import Derived.Test.YtgcilfpoblijnaaXK9
set_option linter.unusedVariables false
namespace Go.Proofs.Ytgcilfpoblijnaa.XK
open Go.RowKit Go.Proofs.YtgcilfpoblijnaaW.PrintWords Go.Proofs.YtgcilfpoblijnaaW.PrintLast Go.Proofs.YtgcilfpoblijnaaW.PrintMore
/-- THE ONE PURE STATEMENT of bellmanlaw28_KeysBack. -/
def bellmanlaw28_KeysBack.PureU : Prop := ∀ (l0 : List S91) (a1 : ByteArray), (∀ x ∈ l0, (True ∧ (Lit.int .i64 x.f1).wf = true)) → ((l0.map (fun x => (((x.f0.size + 1) + 1) + 1))).sum + 1) + (a1.size + 1) ≤ 1048576 → ∃ k, bellmanlaw28_KeysBack.f k l0 a1 = some true
end Go.Proofs.Ytgcilfpoblijnaa.XK
