/- For every number of 64 bits and every two texts: the program's numbers and texts, and what bytes begin with, are the definition's. No condition but the row's own bounds on the texts. -/
import Derived.Test.YtgcilfpoblijnaaX5
import Derived.Test.YtgcilfpoblijnaaQWireNumbers
set_option linter.unusedVariables false
set_option linter.unusedSimpArgs false
namespace Go.Proofs.Ytgcilfpoblijnaa.Pure
open Go.RowKit Go.Proofs.Ytgcilfpoblijnaa.X Go.Proofs.YtgcilfpoblijnaaW.PrintWords Go.Proofs.YtgcilfpoblijnaaW.PrintLast Go.Proofs.Ytgcilfpoblijnaa.Wire
theorem WireNumbers : bellmanlaw01_WireNumbers.Pure := by
  intro a t s ha ht hs
  have fa := fits_of_wf ha
  refine ⟨30, ?_⟩
  unfold bellmanlaw01_WireNumbers.f
  have htB : B t.data.toList = t := B_data t
  have g2 := text_eq t.data.toList
  have g3 := ref_text t.data.toList 30 (by omega)
  rw [htB] at g2 g3
  rw [get_eq, ref_get s 30 (by omega), g2, g3, get_text_eq s 30 (by omega), ref_get_text s 30 (by omega), numbers_ok 30 (by omega), num_eq a fa, ref_num9 a fa 30 (by omega)]
  by_cases h : t.data.toList.length ≤ 4096
  · rw [if_pos h]
    simp
  · rw [if_neg h]
    simp
end Go.Proofs.Ytgcilfpoblijnaa.Pure
