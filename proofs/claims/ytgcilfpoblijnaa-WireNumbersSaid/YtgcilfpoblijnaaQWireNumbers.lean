-- by a program of this session
import Derived.Test.YtgcilfpoblijnaaQWireF
import Derived.Test.YtgcilfpoblijnaaX5
set_option linter.unusedVariables false
set_option linter.unusedSimpArgs false
/-! The answers that the statements ask for first. -/
namespace Go.Proofs.Ytgcilfpoblijnaa.X
open Go.RowKit Go.Proofs.YtgcilfpoblijnaaW.PrintWords Go.Proofs.YtgcilfpoblijnaaW.PrintLast Go.Proofs.Ytgcilfpoblijnaa.Wire
theorem num_of (n : Int) (l : List UInt8) (hv : val l = n.natAbs) (hl : ∀ c t, l = c :: t → c ≠ 0) : numL n = UInt8.ofNat ((if n < 0 then 128 else 0) + l.length) :: l := by
  unfold numL
  rw [← hv, dig_val l hl]
theorem num300 : numL 300 = [2, 1, 44] := num_of 300 [1, 44] (by decide) (by intro c t h; injection h with h _; rw [← h]; decide)
theorem num0 : numL 0 = [0] := num_of 0 [] (by decide) (by intro c t h; cases h)
theorem num2 : numL 2 = [1, 2] := num_of 2 [2] (by decide) (by intro c t h; injection h with h _; rw [← h]; decide)
theorem B_toL (l : List UInt8) : (B l).toList = l := by rw [ByteArray.toList_eq, B_toList]
theorem numbers_ok (k : Nat) (hk : 20 ≤ k) : bellmanlaw01_numbers.f k = some true := by
  have g1 : wire_GetNum.f (⟨#[129, 1, 120]⟩ : ByteArray) = some (-1, B [120], 0) := by rw [get_eq]; rfl
  have g2 : wire_GetNum.f (⟨#[128]⟩ : ByteArray) = some (0, B [], 7) := by rw [get_eq]; rfl
  have g3 : wire_GetNum.f (⟨#[2, 1]⟩ : ByteArray) = some (0, B [], 5) := by rw [get_eq]; rfl
  have ht : textL [97, 98] = [1, 2, 97, 98] := by
    show numL 2 ++ [97, 98] = _
    rw [num2]; rfl
  have g4 : wire_Text.f (⟨#[97, 98]⟩ : ByteArray) = some (B [1, 2, 97, 98], 0) := by
    have := text_eq [97, 98]
    rw [if_pos (by decide), ht] at this
    exact this
  have g5 : wire_GetText.f k (B [1, 2, 97, 98] ++ (⟨#[121]⟩ : ByteArray)) = some (B [97, 98], B [121], 0) := by
    rw [show (⟨#[121]⟩ : ByteArray) = B [121] from rfl, B_append, get_text_eq _ k (by omega), B_toList]
    have := getTL_text [97, 98] [121] (by decide)
    rw [ht] at this
    rw [show ([1, 2, 97, 98] ++ [121] : List UInt8) = [1, 2, 97, 98] ++ [121] from rfl, this]
  have g6 : wire_Num.f 300 = some (B [2, 1, 44]) := by rw [num_eq _ ⟨by decide, by decide⟩, num300]
  have g7 : wire_Num.f 0 = some (B [0]) := by rw [num_eq _ ⟨by decide, by decide⟩, num0]
  unfold bellmanlaw01_numbers.f
  rw [g1, g2, g3, g4]
  simp only [Option.bind_some]
  rw [if_pos (by rw [B_size]; decide), g5]
  simp only [Option.bind_some]
  rw [g6]
  simp only [Option.bind_some]
  rw [if_pos (B_toL _), g7]
  simp only [Option.bind_some]
  simp [B_toL]
end Go.Proofs.Ytgcilfpoblijnaa.X
