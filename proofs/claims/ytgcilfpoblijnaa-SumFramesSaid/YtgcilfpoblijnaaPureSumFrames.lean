/- For every two texts: sum, frame and next are what the definition answers. No condition but the row's own bounds on the texts. -/
import Derived.Test.YtgcilfpoblijnaaX9
import Derived.Test.YtgcilfpoblijnaaQSumLives
set_option linter.unusedVariables false
set_option linter.unusedSimpArgs false
namespace Go.Proofs.Ytgcilfpoblijnaa.Pure
open Go.RowKit Go.Proofs.Ytgcilfpoblijnaa.X Go.Proofs.YtgcilfpoblijnaaW.PrintWords Go.Proofs.YtgcilfpoblijnaaW.PrintLast Go.Proofs.Ytgcilfpoblijnaa.Wire Go.Proofs.Ytgcilfpoblijnaa.Sum
theorem SumFrames : bellmanlaw02_SumFrames.Pure := by
  intro s f hs hf
  refine ⟨10 * s.size + 10 * f.size + 40, ?_⟩
  have f1 := frame_eq s.data.toList
  have f2 := ref_frame s.data.toList (10 * s.size + 10 * f.size + 40) (by rw [← data_size]; omega)
  rw [B_data] at f1 f2
  have n1 := next_eq f (by omega)
  have n2 := ref_next f (by omega) (10 * s.size + 10 * f.size + 40) (by omega)
  have o1 := of_eq s (by omega)
  have o2 := ref_of s (by omega) (10 * s.size + 10 * f.size + 40) (by omega)
  unfold bellmanlaw02_SumFrames.f
  rw [f1, f2, n1, n2, o1, o2, lives_ok]
  by_cases h : s.data.toList.length ≤ 32768
  · rw [if_pos h]
    simp
  · rw [if_neg h]
    simp
end Go.Proofs.Ytgcilfpoblijnaa.Pure
