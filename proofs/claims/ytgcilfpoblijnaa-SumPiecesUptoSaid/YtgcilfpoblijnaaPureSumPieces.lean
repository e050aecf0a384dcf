/- For every number of 32 bits, text and list of texts within the bound: a sum is gone on with, and texts have the sum together, as the definition says. -/
import Derived.Test.YtgcilfpoblijnaaUSumPieces
import Derived.Test.YtgcilfpoblijnaaQSumLives
import Derived.Test.YtgcilfpoblijnaaX9
set_option linter.unusedVariables false
set_option linter.unusedSimpArgs false
namespace Go.Proofs.Ytgcilfpoblijnaa.Pure
open Go.RowKit Go.Proofs.Ytgcilfpoblijnaa.X Go.Proofs.YtgcilfpoblijnaaW.PrintWords Go.Proofs.YtgcilfpoblijnaaW.PrintLast Go.Proofs.YtgcilfpoblijnaaW.PrintMore Go.Proofs.Ytgcilfpoblijnaa.Wire Go.Proofs.Ytgcilfpoblijnaa.Sum
def flat (l : List ByteArray) : List UInt8 := (l.map (fun s : ByteArray => s.data.toList)).flatten
theorem flat_le (l : List ByteArray) (i : Nat) : (flat (l.take i)).length ≤ (flat l).length := by
  have h : flat l = flat (l.take i) ++ flat (l.drop i) := by
    unfold flat
    rw [← List.flatten_append, ← List.map_append, List.take_append_drop]
  rw [h, List.length_append]; omega
theorem flat_sum (l : List ByteArray) : (flat l).length + l.length ≤ (l.map (fun x => (x.size + 1))).sum := by
  induction l with
  | nil => exact Nat.le_refl _
  | cons a l ih =>
    have h := data_size a
    have e : flat (a :: l) = a.data.toList ++ flat l := rfl
    rw [e, List.length_append, List.map_cons, List.sum_cons, List.length_cons]
    omega
theorem flat_succ (l : List ByteArray) (i : Nat) (hi : i < l.length) : flat (l.take (i + 1)) = flat (l.take i) ++ (l[i]).data.toList := by
  unfold flat
  rw [List.take_succ_eq_append_getElem hi, List.map_append, List.flatten_append]
  simp
theorem size_le (l : List ByteArray) (s : ByteArray) (h : s ∈ l) : s.size ≤ (flat l).length := by
  induction l with
  | nil => cases h
  | cons a l ih =>
    have e : flat (a :: l) = a.data.toList ++ flat l := rfl
    have ha := data_size a
    rw [e, List.length_append]
    rcases List.mem_cons.1 h with rfl | h
    · omega
    · have := ih h; omega
theorem ref_fold_l0 (l : List ByteArray) (hm : (flat l).length + l.length ≤ 1048576) (d : Nat) : ∀ (k i : Nat), i + d = l.length → d + 10 * (flat l).length + 10 ≤ k →
    bellmanref02_Fold.l0 k (B (flat (l.take i))) l (l.length : Int) (i : Int) = some ((crc 0 (flat l)).toNat : Int) := by
  induction d with
  | zero =>
    intro k i hi hk
    obtain ⟨k, rfl⟩ : ∃ m, k = m + 1 := ⟨k - 1, by omega⟩
    unfold bellmanref02_Fold.l0
    rw [if_neg (by omega), List.take_of_length_le (by omega), ref_of _ (by rw [B_size]; omega) k (by rw [B_size]; omega), B_toList]
    rfl
  | succ d ih =>
    intro k i hi hk
    obtain ⟨k, rfl⟩ : ∃ m, k = m + 1 := ⟨k - 1, by omega⟩
    have hil : i < l.length := by omega
    have hr : rdOf ByteArray.empty l (i : Int) = l[i] := by
      unfold rdOf
      rw [Int.toNat_natCast, List.getD_eq_getElem?_getD, List.getElem?_eq_getElem hil]; rfl
    have hs := flat_succ l i hil
    have hle := flat_le l (i + 1)
    rw [hs, List.length_append] at hle
    have hds := data_size l[i]
    have hih := ih k (i + 1) (by omega) (by omega)
    rw [hs] at hih
    have e1 : B (flat (l.take i)) ++ l[i] = B (flat (l.take i) ++ (l[i]).data.toList) := by
      rw [← B_append, B_data]
    unfold bellmanref02_Fold.l0
    rw [if_pos (by omega), if_pos (by omega), if_pos (by omega), hr, B_size, if_pos (by omega), e1, nat_wrap i (by omega)]
    exact hih
theorem ref_fold (l : List ByteArray) (hm : (flat l).length + l.length ≤ 1048576) (k : Nat) (hk : l.length + 10 * (flat l).length + 10 ≤ k) : bellmanref02_Fold.f k l = some ((crc 0 (flat l)).toNat : Int) :=
  ref_fold_l0 l hm l.length k 0 (by omega) hk
theorem SumPieces : bellmanlaw02_SumPieces.PureU := by
  intro n s l hn hl hb
  obtain ⟨x, rfl⟩ := u32_of hn
  have hf := flat_sum l
  refine ⟨l.length + 10 * (flat l).length + 10 * s.size + 20, ?_⟩
  unfold bellmanlaw02_SumPieces.f
  rw [lives_ok, Option.bind_some, if_pos rfl, on_eq x s (by omega), ref_on x s (by omega) _ (by omega), Option.bind_some, Option.bind_some, if_pos rfl]
  rw [fold_of l (fun t ht => by have := size_le l t ht; omega), ref_fold l (by omega) _ (by omega), Option.bind_some, Option.bind_some]
  show some (_ == _) = some true
  rw [show (flat l) = (l.map (fun s : ByteArray => s.data.toList)).flatten from rfl, beq_self_eq_true]
end Go.Proofs.Ytgcilfpoblijnaa.Pure
