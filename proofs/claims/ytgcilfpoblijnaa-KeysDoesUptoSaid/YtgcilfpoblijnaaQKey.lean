-- by a program of this session
import Derived.Test.YtgcilfpoblijnaaQList
set_option linter.unusedVariables false
set_option linter.unusedSimpArgs false
/-! A key's bytes: its name as a text, its reply as a number. Plain. -/
namespace Go.Proofs.Ytgcilfpoblijnaa.Wire
def encK (x : ByteArray × Int) : List UInt8 := encT x.1 ++ numL x.2
def decK (l : List UInt8) : (ByteArray × Int) × List UInt8 × Int :=
  if (decT l).2.2 = 0 then (if (getL (decT l).2.1).2.2 = 0 then (((decT l).1, (getL (decT l).2.1).1), (getL (decT l).2.1).2.1, 0) else ((ByteArray.empty, 0), [], (getL (decT l).2.1).2.2)) else ((ByteArray.empty, 0), [], (decT l).2.2)
def okK (x : ByteArray × Int) : Prop := okT x.1 ∧ Fits x.2
theorem decK_enc (x : ByteArray × Int) (r : List UInt8) (h : okK x) : decK (encK x ++ r) = (x, r, 0) := by
  unfold decK encK
  rw [List.append_assoc, decT_enc x.1 _ h.1]
  simp only [if_true]
  rw [getL_num x.2 h.2]
  simp
theorem decK_inv (l : List UInt8) : (∃ x r, okK x ∧ l = encK x ++ r ∧ decK l = (x, r, 0)) ∨ ∃ d e, e ≠ 0 ∧ (decK l).2 = (d, e) := by
  rcases decT_inv l with ⟨t, r, ht, e, hd⟩ | ⟨d, e, he, hd⟩
  · rcases getL_inv r with ⟨n, q, hn, er, hg⟩ | ⟨e', he', hg⟩
    · refine .inl ⟨(t, n), q, ⟨ht, hn⟩, ?_, ?_⟩
      · rw [e, er]
        simp [encK, List.append_assoc]
      · unfold decK
        rw [hd]
        simp only [if_true]
        rw [hg]
        simp
    · refine .inr ⟨[], e', by omega, ?_⟩
      unfold decK
      rw [hd]
      simp only [if_true]
      rw [hg]
      simp only
      rw [if_neg (by omega)]
  · refine .inr ⟨[], e, he, ?_⟩
    unfold decK
    rw [hd]
    simp only
    rw [if_neg he]
end Go.Proofs.Ytgcilfpoblijnaa.Wire
