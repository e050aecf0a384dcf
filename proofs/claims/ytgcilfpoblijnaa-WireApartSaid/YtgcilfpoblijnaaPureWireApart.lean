/- For every two numbers of 64 bits: the bytes of neither begin the other's, but their own; no condition. -/
import Derived.Test.YtgcilfpoblijnaaX6
import Derived.Test.YtgcilfpoblijnaaQWireNumbers
set_option linter.unusedVariables false
set_option linter.unusedSimpArgs false
namespace Go.Proofs.Ytgcilfpoblijnaa.Pure
open Go.RowKit Go.Proofs.Ytgcilfpoblijnaa.X Go.Proofs.YtgcilfpoblijnaaW.PrintWords Go.Proofs.YtgcilfpoblijnaaW.PrintLast Go.Proofs.Ytgcilfpoblijnaa.Wire
theorem dig_len_mono {a b : Nat} (h : a ≤ b) : (dig a).length ≤ (dig b).length :=
  dig_len_le (Nat.lt_of_le_of_lt h (dig_lt b))
theorem WireApart : bellmanlaw01_WireApart.Pure := by
  intro a b ha hb
  have fa := fits_of_wf ha
  have fb := fits_of_wf hb
  refine ⟨20, ?_⟩
  unfold bellmanlaw01_WireApart.f
  rw [numbers_ok 20 (by omega), Option.bind_some, if_pos rfl, num_eq a fa, num_eq b fb]
  simp only [Option.bind_some, B_size]
  have la := numL_length a
  have lb := numL_length b
  have l8 := dig_len8 fa
  have hm : a ≥ 0 → b ≥ a → (numL a).length ≤ (numL b).length := by
    intro h1 h2
    have := dig_len_mono (a := a.natAbs) (b := b.natAbs) (by omega)
    omega
  have key : (numL a).length ≤ (numL b).length → (((B (numL b)).extract 0 (((numL a).length : Int) : Int).toNat).toList == (B (numL a)).toList) = (a == b) := by
    intro hle
    rw [B_ext, B_toList, B_toL, B_toL, Int.toNat_natCast, List.drop_zero, Nat.sub_zero, Bool.eq_iff_iff, beq_iff_eq, beq_iff_eq]
    constructor
    · intro h
      have e : numL b = numL a ++ (numL b).drop (numL a).length := by
        conv => lhs; rw [← List.take_append_drop (numL a).length (numL b)]
        rw [h]
      have e2 : numL a ++ (numL b).drop (numL a).length = numL b ++ [] := by rw [← e, List.append_nil]
      exact (numL_inj fa fb e2).1
    · rintro rfl
      exact List.take_length
  have hne : ¬ (numL a).length ≤ (numL b).length → (a == b) = false := by
    intro h
    rw [beq_eq_false_iff_ne]
    rintro rfl
    exact h (Nat.le_refl _)
  by_cases c : (numL a).length ≤ (numL b).length
  · rw [if_pos (by omega), if_pos (by omega), key c]
    have e : ((a == b) == (a == b)) = true := by simp
    rw [e]
    rw [if_neg (show ¬ ((numL b).length : Int) < ((numL a).length : Int) by omega), if_neg (show ¬ ((numL a).length : Int) < 1 by omega), if_neg (show ¬ ((numL a).length : Int) > 9 by omega)]
    split
    · split <;> rfl
    · rfl
  · rw [if_neg (by omega), hne c]
    rw [if_neg (show ¬ ((numL a).length : Int) < 1 by omega), if_neg (show ¬ ((numL a).length : Int) > 9 by omega)]
    split
    · split
      · exact absurd (hm ‹_› ‹_›) c
      · rfl
    · rfl
end Go.Proofs.Ytgcilfpoblijnaa.Pure
