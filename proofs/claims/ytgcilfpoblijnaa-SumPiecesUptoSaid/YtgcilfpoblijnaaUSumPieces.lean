-- by px.py, a program of this session
import Derived.Test.YtgcilfpoblijnaaX9
namespace Go.Proofs.Ytgcilfpoblijnaa.X
open Go.RowKit Go.Proofs.YtgcilfpoblijnaaW.PrintWords Go.Proofs.YtgcilfpoblijnaaW.PrintLast Go.Proofs.YtgcilfpoblijnaaW.PrintMore
/-- THE ONE PURE STATEMENT of bellmanlaw02_SumPieces. -/
def bellmanlaw02_SumPieces.PureU : Prop := ∀ (a0 : Int) (a1 : ByteArray) (l2 : List ByteArray), (Lit.int .u32 a0).wf = true → (∀ x ∈ l2, True) → 1 + (a1.size + 1) + ((l2.map (fun x => (x.size + 1))).sum + 1) ≤ 1048576 → ∃ k, bellmanlaw02_SumPieces.f k a0 a1 l2 = some true
end Go.Proofs.Ytgcilfpoblijnaa.X
