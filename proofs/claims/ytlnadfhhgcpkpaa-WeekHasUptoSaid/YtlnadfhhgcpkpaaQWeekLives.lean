-- by a program of this session
import Derived.Test.YtlnadfhhgcpkpaaXW17
set_option linter.unusedVariables false
set_option linter.unusedSimpArgs false
/-! The answers that the statements of weeks ask for first. -/
namespace Go.Proofs.Ytlnadfhhgcpkpaa.XW
open Go.RowKit Go.Proofs.YtlnadfhhgcpkpaaW.PrintWords Go.Proofs.YtlnadfhhgcpkpaaW.PrintLast Go.Proofs.YtlnadfhhgcpkpaaW.PrintMore
theorem lives_100 : bellmanlaw07_lives.f 100 = some true := by decide +kernel
theorem lives_up : ∀ m, bellmanlaw07_lives.f (100 + m) = some true
  | 0 => lives_100
  | m + 1 => bellmanlaw07_lives.mono (100 + m) _ (lives_up m)
theorem lives_ok (k : Nat) (hk : 100 ≤ k) : bellmanlaw07_lives.f k = some true := by
  obtain ⟨m, rfl⟩ : ∃ m, k = 100 + m := ⟨k - 100, by omega⟩
  exact lives_up m
end Go.Proofs.Ytlnadfhhgcpkpaa.XW
