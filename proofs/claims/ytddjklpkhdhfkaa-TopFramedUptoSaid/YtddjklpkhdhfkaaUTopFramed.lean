-- by px.py, a program of this session
import Derived.Test.YtddjklpkhdhfkaaXT4
set_option linter.unusedVariables false
namespace Go.Proofs.Ytddjklpkhdhfkaa.XT
open Go.RowKit Go.Proofs.YtddjklpkhdhfkaaW.PrintWords Go.Proofs.YtddjklpkhdhfkaaW.PrintLast Go.Proofs.YtddjklpkhdhfkaaW.PrintMore
/-- THE ONE PURE STATEMENT of bellmantop_TopFramed. -/
def bellmantop_TopFramed.PureU : Prop := ∀ (l0 : List ByteArray) (l1 : List Int) (a2 : ByteArray), (∀ _x ∈ l0, True) → (∀ x ∈ l1, (Lit.int .i64 x).wf = true) → ((l0.map (fun x => (x.size + 1))).sum + 1) + ((l1.map (fun _ => 1)).sum + 1) + (a2.size + 1) ≤ 1048576 → ∃ k, bellmantop_TopFramed.f k l0 l1 a2 = some true
end Go.Proofs.Ytddjklpkhdhfkaa.XT
