/- For every two texts: what was framed is told next, and what was behind it stays; what is told next has its frame. No condition but the row's own bounds on the texts. -/
import Derived.Test.YtgcilfpoblijnaaX9
import Derived.Test.YtgcilfpoblijnaaQSumLives
set_option linter.unusedVariables false
set_option linter.unusedSimpArgs false
namespace Go.Proofs.Ytgcilfpoblijnaa.Pure
open Go.RowKit Go.Proofs.Ytgcilfpoblijnaa.X Go.Proofs.YtgcilfpoblijnaaW.PrintWords Go.Proofs.YtgcilfpoblijnaaW.PrintLast Go.Proofs.Ytgcilfpoblijnaa.Wire Go.Proofs.Ytgcilfpoblijnaa.Sum
theorem back_j0 (s : ByteArray) (hs : s.size ≤ 140737488351232) : bellmanlaw02_SumBack.j0 1 s = some true := by
  rw [bellmanlaw02_SumBack.j0]
  rw [next_eq s (by omega), Option.bind_some]
  rcases nextL_inv s.data.toList with ⟨d, r, hd, e, h⟩ | ⟨e, he, h⟩
  · rw [h]
    simp only
    rw [if_pos trivial, frame_eq, if_pos hd, Option.bind_some]
    simp only
    have hl := congrArg List.length e
    rw [List.length_append, ← data_size] at hl
    rw [if_pos trivial, B_append, B_size, B_size, if_pos (by omega), ← e, B_data, beq_self_eq_true]
  · rw [h]
    simp only
    rw [if_neg he, if_pos (B_tl _), B_tl]
    rfl
theorem SumBack : bellmanlaw02_SumBack.Pure := by
  intro s more hs hm
  refine ⟨1, ?_⟩
  unfold bellmanlaw02_SumBack.f
  have hf := frame_eq s.data.toList
  rw [B_data] at hf
  rw [lives_ok, Option.bind_some, if_pos rfl, hf]
  by_cases h : s.data.toList.length ≤ 32768
  · have hl : (frameL s.data.toList).length ≤ 32768 + 20 := by
      have h8 := dig_len8 (n := (s.data.toList.length : Int)) ⟨by omega, by omega⟩
      unfold frameL
      rw [List.length_append, List.length_append, numL_length]
      have : (fourL (crc 0 s.data.toList)).length = 4 := rfl
      omega
    have hn : sum_Next.f (B (frameL s.data.toList) ++ more) = some (s, more, 0) := by
      conv => lhs; rw [← B_data more]
      have hm' := data_size more
      rw [B_append, next_eq _ (by rw [B_size, List.length_append]; omega), B_toList, nextL_frame _ _ h]
      simp only [B_data]
    rw [if_pos h, Option.bind_some]
    simp only
    rw [if_pos trivial, B_size, if_pos (by omega), hn, Option.bind_some]
    simp only
    rw [if_pos trivial, if_pos trivial, if_pos trivial]
    exact back_j0 more hm
  · rw [if_neg h, Option.bind_some]
    simp only
    rw [if_neg (by decide)]
    exact back_j0 more hm
end Go.Proofs.Ytgcilfpoblijnaa.Pure
