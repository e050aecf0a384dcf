-- by a program of this session
import Derived.Test.YtgcilfpoblijnaaQListF
import Derived.Test.YtgcilfpoblijnaaQNum
import Derived.Test.YtgcilfpoblijnaaXL5
set_option linter.unusedVariables false
set_option linter.unusedSimpArgs false
/-! The answers that the statements of lists ask for first. -/
namespace Go.Proofs.Ytgcilfpoblijnaa.XL
open Go.RowKit Go.Proofs.YtgcilfpoblijnaaW.PrintWords Go.Proofs.YtgcilfpoblijnaaW.PrintLast Go.Proofs.YtgcilfpoblijnaaW.PrintMore Go.Proofs.Ytgcilfpoblijnaa.Wire
theorem num1 : numL 1 = [1, 1] := num_of 1 [1] (by decide) (by intro c t h; injection h with h _; rw [← h]; decide)
theorem numm1 : numL (-1) = [129, 1] := num_of (-1) [1] (by decide) (by intro c t h; injection h with h _; rw [← h]; decide)
theorem get_nums_enc (l : List Int) (hf : ∀ a ∈ l, Fits a) (hl : l.length ≤ 1024) (s : ByteArray) (k : Nat) (hk : 1030 ≤ k) : wire_GetNums.f k (B (listL numL l) ++ s) = some (l, s, 0) := by
  conv => lhs; rw [← B_data s]
  rw [B_append, get_nums_eq _ k hk, B_toList, getListL_enc (enc := numL) (dec := getL) (ok := Fits) getL_enc l _ hl hf]
  simp only [B_data]
theorem get_texts_enc (l : List ByteArray) (hf : ∀ a ∈ l, okT a) (hl : l.length ≤ 1024) (s : ByteArray) (k : Nat) (hk : 1030 ≤ k) : wire_GetTexts.f k (B (listL encT l) ++ s) = some (l, s, 0) := by
  conv => lhs; rw [← B_data s]
  rw [B_append, get_texts_eq _ k hk, B_toList, getListL_enc (enc := encT) (dec := decT) (ok := okT) decT_enc l _ hl hf]
  simp only [B_data]
theorem lists_ok (k : Nat) (hk : 1060 ≤ k) : bellmanlaw01_lists.f k = some true := by
  have hfit : ∀ a ∈ ([1, (-1)] : List Int), Fits a := by
    intro a ha
    simp only [List.mem_cons, List.not_mem_nil, or_false] at ha
    rcases ha with rfl | rfl <;> exact ⟨by decide, by decide⟩
  have hok : ∀ a ∈ ([(⟨#[97]⟩ : ByteArray), (⟨#[]⟩ : ByteArray)] : List ByteArray), okT a := by
    intro a ha
    simp only [List.mem_cons, List.not_mem_nil, or_false] at ha
    unfold okT
    rcases ha with rfl | rfl <;> decide
  have e1 := nums_eq [1, (-1)] hfit k (by omega)
  rw [if_pos (by decide)] at e1
  have hl1 : listL numL [1, (-1)] = [1, 2, 1, 1, 129, 1] := by
    show numL 2 ++ (numL 1 ++ (numL (-1) ++ [])) = _
    rw [num2, num1, numm1]; rfl
  have e2 := get_nums_enc [1, (-1)] hfit (by decide) (⟨#[122]⟩ : ByteArray) k (by omega)
  have e3 := texts_eq [(⟨#[97]⟩ : ByteArray), (⟨#[]⟩ : ByteArray)] k (by omega)
  rw [if_pos ⟨by decide, ok_allT _ hok⟩] at e3
  have e4 := get_texts_enc [(⟨#[97]⟩ : ByteArray), (⟨#[]⟩ : ByteArray)] hok (by decide) (B []) k (by omega)
  have e4' : wire_GetTexts.f k (B (listL encT [(⟨#[97]⟩ : ByteArray), (⟨#[]⟩ : ByteArray)])) = some ([(⟨#[97]⟩ : ByteArray), (⟨#[]⟩ : ByteArray)], B [], 0) := by
    rw [B_append, List.append_nil] at e4
    exact e4
  have hg : getListL decT [129, 1] = ([], [], 7) := by
    have := getL_enc (-1) [] ⟨by decide, by decide⟩
    rw [numm1] at this
    unfold getListL
    rw [show ([129, 1] : List UInt8) = [129, 1] ++ [] from rfl, this]
    rfl
  have e5 := get_texts_eq (⟨#[129, 1]⟩ : ByteArray) k (by omega)
  rw [show (⟨#[129, 1]⟩ : ByteArray).data.toList = [129, 1] from rfl, hg] at e5
  have s1 := same_refl [1, (-1)] (by decide) k (by simp; omega)
  have s2 := sameT_refl [(⟨#[97]⟩ : ByteArray), (⟨#[]⟩ : ByteArray)] (by decide) k (by simp; omega)
  unfold bellmanlaw01_lists.f
  rw [e1]
  simp only [Option.bind_some]
  rw [B_size, hl1, if_pos (by decide), ← hl1, e2]
  simp only [Option.bind_some]
  rw [e3]
  simp only [Option.bind_some]
  rw [e4']
  simp only [Option.bind_some]
  rw [e5]
  simp only [Option.bind_some]
  rw [B_toL, hl1, if_pos rfl, if_pos trivial, s1]
  simp only [Option.bind_some]
  have hz : (⟨#[122]⟩ : ByteArray).toList = [122] := B_toL [122]
  rw [if_pos trivial, hz, if_pos trivial, if_pos trivial, if_pos trivial, s2]
  simp
end Go.Proofs.Ytgcilfpoblijnaa.XL
