/- For every list of numbers, list of texts and bytes within the bound: lists are put and got as the definition says. -/
import Derived.Test.YtgcilfpoblijnaaUWireLists
import Derived.Test.YtgcilfpoblijnaaQLists
set_option linter.unusedVariables false
set_option linter.unusedSimpArgs false
namespace Go.Proofs.Ytgcilfpoblijnaa.Pure
open Go.RowKit Go.Proofs.Ytgcilfpoblijnaa.XL Go.Proofs.YtgcilfpoblijnaaW.PrintWords Go.Proofs.YtgcilfpoblijnaaW.PrintLast Go.Proofs.YtgcilfpoblijnaaW.PrintMore Go.Proofs.Ytgcilfpoblijnaa.Wire
theorem WireLists : bellmanlaw01_WireLists.PureU := by
  intro l m s hl hm hb
  have hf : ∀ a ∈ l, Fits a := fun a ha => fits_of_wf (hl a ha)
  have a1 := nums_eq l hf 2000 (by decide)
  have a2 := ref_nums_eq l hf 2000 (by decide)
  have a3 := get_nums_eq s 2000 (by decide)
  have a4 := ref_get_nums_eq s 2000 (by decide)
  have a5 := texts_eq m 2000 (by decide)
  have a6 := ref_texts_eq m 2000 (by decide)
  have a7 := get_texts_eq s 2000 (by decide)
  have a8 := ref_get_texts_eq s 2000 (by decide)
  have a9 := lists_ok 2000 (by decide)
  have n1 : (getListL getL s.data.toList).1.length ≤ 1024 := by
    rcases getListL_inv getL_inv2 s.data.toList with ⟨xs, r, h, _, _, e⟩ | ⟨e, _, h⟩
    · rw [e]; exact h
    · rw [h]; exact Nat.zero_le _
  have n2 : (getListL decT s.data.toList).1.length ≤ 1024 := by
    rcases getListL_inv decT_inv s.data.toList with ⟨xs, r, h, _, _, e⟩ | ⟨e, _, h⟩
    · rw [e]; exact h
    · rw [h]; exact Nat.zero_le _
  have s1 := same_refl (getListL getL s.data.toList).1 (by omega) 2000 (by omega)
  have s2 := sameT_refl (getListL decT s.data.toList).1 (by omega) 2000 (by omega)
  refine ⟨2000, ?_⟩
  unfold bellmanlaw01_WireLists.f
  rw [a1, a2, a3, a4, a5, a6, a7, a8, a9]
  by_cases c1 : l.length ≤ 1024 <;> by_cases c2 : m.length ≤ 1024 ∧ allT m = true
  · rw [if_pos c1, if_pos c2]; simp [s1, s2]
  · rw [if_pos c1, if_neg c2]; simp [s1, s2]
  · rw [if_neg c1, if_pos c2]; simp [s1, s2]
  · rw [if_neg c1, if_neg c2]; simp [s1, s2]
end Go.Proofs.Ytgcilfpoblijnaa.Pure
