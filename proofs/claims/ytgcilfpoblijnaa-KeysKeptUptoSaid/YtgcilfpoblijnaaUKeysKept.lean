-- by px.py, a program of this session
import Derived.Test.YtgcilfpoblijnaaXK9
set_option linter.unusedVariables false
namespace Go.Proofs.Ytgcilfpoblijnaa.XK
open Go.RowKit Go.Proofs.YtgcilfpoblijnaaW.PrintWords Go.Proofs.YtgcilfpoblijnaaW.PrintLast Go.Proofs.YtgcilfpoblijnaaW.PrintMore
/-- THE ONE PURE STATEMENT of bellmanlaw28_KeysKept. -/
def bellmanlaw28_KeysKept.PureU : Prop := ∀ (l0 : List S91) (a1 : ByteArray) (a2 : Int) (l3 : List ByteArray), (∀ x ∈ l0, (True ∧ (Lit.int .i64 x.f1).wf = true)) → (Lit.int .i64 a2).wf = true → (∀ _x ∈ l3, True) → ((l0.map (fun x => (((x.f0.size + 1) + 1) + 1))).sum + 1) + (a1.size + 1) + 1 + ((l3.map (fun x => (x.size + 1))).sum + 1) ≤ 1048576 → ∃ k, bellmanlaw28_KeysKept.f k l0 a1 a2 l3 = some true
end Go.Proofs.Ytgcilfpoblijnaa.XK
