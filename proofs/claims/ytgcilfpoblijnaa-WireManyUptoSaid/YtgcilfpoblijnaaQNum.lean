-- by a program of this session
import Derived.Test.YtgcilfpoblijnaaQWire
set_option linter.unusedVariables false
set_option linter.unusedSimpArgs false
/-! Some numbers' bytes. -/
namespace Go.Proofs.Ytgcilfpoblijnaa.Wire
theorem num_of (n : Int) (l : List UInt8) (hv : val l = n.natAbs) (hl : ∀ c t, l = c :: t → c ≠ 0) : numL n = UInt8.ofNat ((if n < 0 then 128 else 0) + l.length) :: l := by
  unfold numL
  rw [← hv, dig_val l hl]
theorem num2 : numL 2 = [1, 2] := num_of 2 [2] (by decide) (by intro c t h; injection h with h _; rw [← h]; decide)
theorem B_toL (l : List UInt8) : (B l).toList = l := by rw [ByteArray.toList_eq, B_toList]
end Go.Proofs.Ytgcilfpoblijnaa.Wire
