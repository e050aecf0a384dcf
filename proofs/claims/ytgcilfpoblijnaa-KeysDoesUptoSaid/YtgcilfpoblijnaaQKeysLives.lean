-- by a program of this session
import Derived.Test.YtgcilfpoblijnaaQKeysF
import Derived.Test.YtgcilfpoblijnaaXK5
set_option linter.unusedVariables false
set_option linter.unusedSimpArgs false
/-! The answers that the statements of keys ask for first. -/
namespace Go.Proofs.Ytgcilfpoblijnaa.XK
open Go.RowKit Go.Proofs.YtgcilfpoblijnaaW.PrintWords Go.Proofs.YtgcilfpoblijnaaW.PrintLast Go.Proofs.YtgcilfpoblijnaaW.PrintMore Go.Proofs.Ytgcilfpoblijnaa.Wire
theorem lives_100 : bellmanlaw28_lives.f 100 = some true := by decide +kernel
theorem lives_ok (k : Nat) (hk : 100 ≤ k) : bellmanlaw28_lives.f k = some true := by
  obtain ⟨m, rfl⟩ : ∃ m, k = 100 + m := ⟨k - 100, by omega⟩
  exact le_of _ bellmanlaw28_lives.mono lives_100 m
end Go.Proofs.Ytgcilfpoblijnaa.XK
