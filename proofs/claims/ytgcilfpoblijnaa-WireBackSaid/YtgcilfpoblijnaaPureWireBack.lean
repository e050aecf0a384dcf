/- For every number of 64 bits and every two texts: what was put is got, and what was behind it stays; what is got has its bytes. No condition but the row's own bounds on the texts. -/
import Derived.Test.YtgcilfpoblijnaaX6
import Derived.Test.YtgcilfpoblijnaaQWireNumbers
set_option linter.unusedVariables false
set_option linter.unusedSimpArgs false
namespace Go.Proofs.Ytgcilfpoblijnaa.Pure
open Go.RowKit Go.Proofs.Ytgcilfpoblijnaa.X Go.Proofs.YtgcilfpoblijnaaW.PrintWords Go.Proofs.YtgcilfpoblijnaaW.PrintLast Go.Proofs.Ytgcilfpoblijnaa.Wire
theorem back_end (s : ByteArray) (hs : s.size ≤ 140737488351232) :
    ((wire_GetNum.f s).bind fun bt178 => (if bt178.2.2 = 0 then ((wire_Num.f bt178.1).bind fun t181 => (if t181.size + bt178.2.1.size ≤ 9223372036854775807 then (some ((t181 ++ bt178.2.1).toList == s.toList)) else (none))) else (if bt178.1 = 0 then (if bt178.2.1.toList = ([] : List UInt8) then (some true) else (some false)) else (some false)))) = some true := by
  rw [get_eq, Option.bind_some]
  rcases getL_inv s.data.toList with ⟨n, r, hn, e, h⟩ | ⟨e, he, h⟩
  · rw [h]
    simp only
    rw [if_pos trivial, num_eq n hn, Option.bind_some, B_append, ← e, B_data]
    have hl := congrArg List.length e
    rw [List.length_append, data_length] at hl
    rw [B_size, B_size, if_pos (by omega), beq_self_eq_true]
  · rw [h]
    simp only
    rw [if_neg (by omega), if_pos trivial, if_pos (B_toL _)]
theorem WireBack : bellmanlaw01_WireBack.Pure := by
  intro a t s ha ht hs
  have fa := fits_of_wf ha
  have l8 := dig_len8 fa
  refine ⟨30, ?_⟩
  unfold bellmanlaw01_WireBack.f
  rw [numbers_ok 30 (by omega), Option.bind_some, if_pos rfl, num_eq a fa]
  simp only [Option.bind_some, B_size, numL_length]
  rw [if_pos (by omega)]
  have hsB : B s.data.toList = s := B_data s
  have htB : B t.data.toList = t := B_data t
  have g1 : wire_GetNum.f (B (numL a) ++ s) = some (a, s, 0) := by
    conv => lhs; rw [← hsB]
    rw [B_append, get_eq, B_toList, getL_num a fa]
    simp only [hsB]
  have g2 := text_eq t.data.toList
  rw [htB] at g2
  rw [g1, g2]
  have hbe := back_end s hs
  by_cases h : t.data.toList.length ≤ 4096
  · rw [if_pos h]
    simp only [Option.bind_some, if_true]
    have hne : (s.toList != s.toList) = false := by simp
    have g3 : ∀ k, 1 ≤ k → wire_GetText.f k (B (textL t.data.toList) ++ s) = some (t, s, 0) := by
      intro k hk
      conv => lhs; rw [← hsB]
      rw [B_append, get_text_eq _ k hk, B_toList, getTL_text _ _ h]
      simp only [hsB, htB]
    have hl : (textL t.data.toList).length ≤ 4105 := by
      have := dig_len8 (n := (t.data.toList.length : Int)) ⟨by omega, by omega⟩
      unfold textL
      rw [List.length_append, numL_length]
      omega
    rw [hne]
    simp only [bellmanlaw01_WireBack.j0]
    rw [if_neg (by simp), if_pos trivial, B_size, if_pos (by omega), g3 _ (by omega)]
    simp only [Option.bind_some, if_true, hne, bellmanlaw01_WireBack.j1]
    rw [if_neg (by simp)]
    exact hbe
  · rw [if_neg h]
    simp only [Option.bind_some, if_true]
    have hne : (s.toList != s.toList) = false := by simp
    rw [hne]
    simp only [bellmanlaw01_WireBack.j0]
    rw [if_neg (by simp), if_neg (by decide)]
    exact hbe
end Go.Proofs.Ytgcilfpoblijnaa.Pure
