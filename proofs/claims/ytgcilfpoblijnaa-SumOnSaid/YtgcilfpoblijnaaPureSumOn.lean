/- For every three texts and every number of 32 bits: the sum over pieces is the sum over the whole. No condition but the row's own bounds on the texts. -/
import Derived.Test.YtgcilfpoblijnaaX10
import Derived.Test.YtgcilfpoblijnaaQSumLives
set_option linter.unusedVariables false
set_option linter.unusedSimpArgs false
namespace Go.Proofs.Ytgcilfpoblijnaa.Pure
open Go.RowKit Go.Proofs.Ytgcilfpoblijnaa.X Go.Proofs.YtgcilfpoblijnaaW.PrintWords Go.Proofs.YtgcilfpoblijnaaW.PrintLast Go.Proofs.Ytgcilfpoblijnaa.Wire Go.Proofs.Ytgcilfpoblijnaa.Sum
theorem SumOn : bellmanlaw02_SumOn.Pure := by
  intro a b c n ha hb hc hn
  obtain ⟨x, rfl⟩ := u32_of hn
  have hab : (a ++ b).data.toList = a.data.toList ++ b.data.toList := by simp
  have sab : (a ++ b).size = a.size + b.size := by simp
  unfold bellmanlaw02_SumOn.f
  rw [lives_ok, Option.bind_some, if_pos rfl, on_eq x a (by omega), Option.bind_some, on_eq _ b (by omega), Option.bind_some, if_pos (by omega), on_eq x (a ++ b) (by omega), Option.bind_some, hab, crc_append, if_pos rfl]
  rw [fold_of _ (by intro s hs; simp only [List.mem_cons, List.not_mem_nil, or_false] at hs; rcases hs with rfl | rfl | rfl <;> omega), Option.bind_some, of_eq a (by omega), Option.bind_some, on_eq _ b (by omega), Option.bind_some, on_eq _ c (by omega), Option.bind_some]
  have e : (List.map (fun s : ByteArray => s.data.toList) [a, b, c]).flatten = a.data.toList ++ (b.data.toList ++ c.data.toList) := by simp
  rw [e, crc_append, crc_append, if_pos rfl]
  have h0 : sum_On.f (x.toNat : Int) (⟨#[]⟩ : ByteArray) = some (x.toNat : Int) := by
    rw [on_eq x _ (by decide), show (⟨#[]⟩ : ByteArray).data.toList = [] from rfl, crc_nil]
  rw [h0, Option.bind_some, beq_self_eq_true]
end Go.Proofs.Ytgcilfpoblijnaa.Pure
