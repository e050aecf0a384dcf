-- by a program of this session
import Derived.Test.YtddjklpkhdhfkaaQWireG
import Derived.Test.YtddjklpkhdhfkaaXT1
import Derived.Test.YtddjklpkhdhfkaaXT2
set_option linter.unusedVariables false
set_option linter.unusedSimpArgs false
/-! Writing numbers and texts: the printed functions answer as the plain theory says. -/
namespace Go.Proofs.Ytddjklpkhdhfkaa.XT
open Go.RowKit Go.Proofs.YtddjklpkhdhfkaaW.PrintWords Go.Proofs.YtddjklpkhdhfkaaW.PrintLast Go.Proofs.Ytddjklpkhdhfkaa.Wire
set_option linter.unusedVariables false
theorem num_eq (n : Int) (hn : Fits n) : wire_Num.f n = some (B (numL n)) := by
  unfold wire_Num.f wire_Put.f
  rw [if_pos ⟨hn.1, hn.2, by simp⟩]
  simp only [List.nil_append, Option.bind_some]
  congr 1
  unfold strOfNums B
  rw [put_bytes n hn]
theorem text_eq (t : List UInt8) : wire_Text.f (B t) = if t.length ≤ 4096 then some (B (textL t), 0) else some (B [], 12) := by
  unfold wire_Text.f
  rw [B_size]
  by_cases h : t.length ≤ 4096
  · rw [if_neg (by omega), if_pos h, num_eq _ ⟨by omega, by omega⟩, Option.bind_some, B_size]
    have h8 := dig_len8 (n := (t.length : Int)) ⟨by omega, by omega⟩
    rw [numL_length, if_pos (by omega), B_append]
    rfl
  · rw [if_pos (by omega), if_neg h]; rfl
end Go.Proofs.Ytddjklpkhdhfkaa.XT
