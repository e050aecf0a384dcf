-- by a program of this session
import Derived.Test.YtgcilfpoblijnaaQSumF
import Derived.Test.YtgcilfpoblijnaaX9
set_option linter.unusedVariables false
set_option linter.unusedSimpArgs false
/-! The answers that the statements of sums ask for first. -/
namespace Go.Proofs.Ytgcilfpoblijnaa.X
open Go.RowKit Go.Proofs.YtgcilfpoblijnaaW.PrintWords Go.Proofs.YtgcilfpoblijnaaW.PrintLast Go.Proofs.YtgcilfpoblijnaaW.PrintMore Go.Proofs.Ytgcilfpoblijnaa.Wire Go.Proofs.Ytgcilfpoblijnaa.Sum
theorem sum_num2 : numL 2 = [1, 2] := by
  unfold numL
  rw [show dig (Int.natAbs 2) = dig (val [2]) from rfl, dig_val [2] (by intro c t h; injection h with h _; rw [← h]; decide)]
  rfl
theorem lives_ok : bellmanlaw02_lives.f = some true := by
  have f1 := frame_eq [97, 98]
  rw [if_pos (by decide)] at f1
  have hf : sum_Frame.f (⟨#[97, 98]⟩ : ByteArray) = some (B (frameL [97, 98]), 0) := f1
  have hl : (frameL [97, 98]).length = 8 := by
    unfold frameL
    rw [show (([97, 98] : List UInt8).length : Int) = 2 from rfl, sum_num2]; rfl
  have hs : (B (frameL [97, 98])).size = 8 := by rw [B_size, hl]
  have n1 : sum_Next.f (B (frameL [97, 98]) ++ (⟨#[122]⟩ : ByteArray)) = some (B [97, 98], B [122], 0) := by
    rw [show (⟨#[122]⟩ : ByteArray) = B [122] from rfl, B_append, next_eq _ (by rw [B_size, List.length_append, hl]; decide), B_toList, nextL_frame _ _ (by decide)]
  have n2 : sum_Next.f (⟨#[1, 1, 0, 0, 0, 0, 97]⟩ : ByteArray) = some (B [], B [], 6) := by
    rw [next_eq _ (by decide)]
    rw [show nextL (⟨#[1, 1, 0, 0, 0, 0, 97]⟩ : ByteArray).data.toList = ([], [], 6) from by decide +kernel]
  have n3 : sum_Next.f (⟨#[]⟩ : ByteArray) = some (B [], B [], 5) := by
    rw [next_eq _ (by decide)]
    rw [show nextL (⟨#[]⟩ : ByteArray).data.toList = ([], [], 5) from by decide +kernel]
  have o1 : sum_Of.f (⟨#[49, 50, 51, 52, 53, 54, 55, 56, 57]⟩ : ByteArray) = some 3808858755 := by
    rw [of_eq _ (by decide)]
    rw [show crc 0 (⟨#[49, 50, 51, 52, 53, 54, 55, 56, 57]⟩ : ByteArray).data.toList = 3808858755#32 from by decide +kernel]; rfl
  have o2 : sum_Of.f (⟨#[]⟩ : ByteArray) = some 0 := by
    rw [of_eq _ (by decide)]
    rw [show crc 0 (⟨#[]⟩ : ByteArray).data.toList = 0#32 from by decide +kernel]; rfl
  have o3 := of_eq (⟨#[49, 50, 51, 52]⟩ : ByteArray) (by decide)
  have o4 : sum_On.f (((crc 0 (⟨#[49, 50, 51, 52]⟩ : ByteArray).data.toList).toNat : Nat) : Int) (⟨#[53, 54, 55, 56, 57]⟩ : ByteArray) = some 3808858755 := by
    rw [on_eq _ _ (by decide)]
    rw [show crc (crc 0 (⟨#[49, 50, 51, 52]⟩ : ByteArray).data.toList) (⟨#[53, 54, 55, 56, 57]⟩ : ByteArray).data.toList = 3808858755#32 from by decide +kernel]; rfl
  have o5 : sum_Fold.f (([(⟨#[49, 50]⟩ : ByteArray), (⟨#[]⟩ : ByteArray), (⟨#[51, 52, 53, 54, 55, 56, 57]⟩ : ByteArray)] : List ByteArray)) = some 3808858755 := by
    rw [fold_of _ (by decide)]
    rw [show crc 0 (([(⟨#[49, 50]⟩ : ByteArray), (⟨#[]⟩ : ByteArray), (⟨#[51, 52, 53, 54, 55, 56, 57]⟩ : ByteArray)] : List ByteArray).map (fun s => s.data.toList)).flatten = 3808858755#32 from by decide +kernel]; rfl
  unfold bellmanlaw02_lives.f
  rw [hf]
  simp only [Option.bind_some]
  rw [hs, if_pos (by decide), n1]
  simp only [Option.bind_some]
  rw [n2]
  simp only [Option.bind_some]
  rw [n3]
  simp only [Option.bind_some]
  rw [o1]
  simp only [Option.bind_some]
  rw [if_pos trivial, o2]
  simp only [Option.bind_some]
  rw [if_pos trivial, o3]
  simp only [Option.bind_some]
  rw [o4]
  simp only [Option.bind_some]
  rw [if_pos trivial, o5]
  simp only [Option.bind_some]
  simp [B_tl]
end Go.Proofs.Ytgcilfpoblijnaa.X
