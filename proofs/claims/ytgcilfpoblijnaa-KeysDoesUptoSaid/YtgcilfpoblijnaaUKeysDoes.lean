-- by px.py, a program of this session
import Derived.Test.YtgcilfpoblijnaaXK8
set_option linter.unusedVariables false
namespace Go.Proofs.Ytgcilfpoblijnaa.XK
open Go.RowKit Go.Proofs.YtgcilfpoblijnaaW.PrintWords Go.Proofs.YtgcilfpoblijnaaW.PrintLast Go.Proofs.YtgcilfpoblijnaaW.PrintMore
/-- THE ONE PURE STATEMENT of bellmanlaw28_KeysDoes. -/
def bellmanlaw28_KeysDoes.PureU : Prop := ∀ (l0 : List S91) (a1 : ByteArray) (a2 : Int) (a3 : ByteArray), (∀ x ∈ l0, (True ∧ (Lit.int .i64 x.f1).wf = true)) → (Lit.int .i64 a2).wf = true → ((l0.map (fun x => (((x.f0.size + 1) + 1) + 1))).sum + 1) + (a1.size + 1) + 1 + (a3.size + 1) ≤ 1048576 → ∃ k, bellmanlaw28_KeysDoes.f k l0 a1 a2 a3 = some true
end Go.Proofs.Ytgcilfpoblijnaa.XK
