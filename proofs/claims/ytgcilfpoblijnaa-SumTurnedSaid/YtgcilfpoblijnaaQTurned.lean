-- by a program of this session
import Derived.Test.YtgcilfpoblijnaaQSum
set_option linter.unusedVariables false
set_option linter.unusedSimpArgs false
/-! A byte that is another makes another sum. -/
namespace Go.Proofs.Ytgcilfpoblijnaa.Sum
open Go.Proofs.Ytgcilfpoblijnaa.Wire
theorem g_top (x : R) : (g x).getLsbD 31 = x.getLsbD 0 := by
  unfold g
  have h : (x >>> 1).getLsbD 31 = false := by simp
  have hP : P.getLsbD 31 = true := by decide
  rw [BitVec.getLsbD_xor, h]
  by_cases c : x.getLsbD 0 = true
  · rw [if_pos c, hP, c]; rfl
  · rw [if_neg c]
    have : x.getLsbD 0 = false := by simpa using c
    rw [this]; simp
theorem xor_cancel (a b c : R) (h : a ^^^ c = b ^^^ c) : a = b := by
  have := congrArg (· ^^^ c) h
  simpa [BitVec.xor_assoc] using this
theorem g_inj {x y : R} (h : g x = g y) : x = y := by
  have h0 : x.getLsbD 0 = y.getLsbD 0 := by rw [← g_top, ← g_top, h]
  unfold g at h
  rw [h0] at h
  have h1 := xor_cancel _ _ _ h
  apply BitVec.eq_of_getLsbD_eq
  intro i hi
  cases i with
  | zero => exact h0
  | succ j =>
    have := congrArg (fun z : R => z.getLsbD j) h1
    simp only [BitVec.getLsbD_ushiftRight] at this
    rwa [Nat.add_comm 1 j] at this
theorem step_g (x : R) (c : UInt8) : step x c = g (g (g (g (g (g (g (g (x ^^^ BitVec.ofNat 32 c.toNat)))))))) := by
  unfold step
  rw [← g4_eq, ← g4_eq]
theorem step_inj_x {x y : R} {c : UInt8} (h : step x c = step y c) : x = y := by
  rw [step_g, step_g] at h
  exact xor_cancel _ _ _ (g_inj (g_inj (g_inj (g_inj (g_inj (g_inj (g_inj (g_inj h))))))))
theorem step_inj_c {x : R} {c d : UInt8} (h : step x c = step x d) : c = d := by
  rw [step_g, step_g] at h
  have h1 := g_inj (g_inj (g_inj (g_inj (g_inj (g_inj (g_inj (g_inj h)))))))
  rw [BitVec.xor_comm x, BitVec.xor_comm x] at h1
  have h2 := congrArg BitVec.toNat (xor_cancel _ _ _ h1)
  have hc := c.toNat_lt
  have hd := d.toNat_lt
  rw [BitVec.toNat_ofNat, BitVec.toNat_ofNat, Nat.mod_eq_of_lt (by omega), Nat.mod_eq_of_lt (by omega)] at h2
  exact UInt8.toNat_inj.mp h2
theorem on_inj {l : List UInt8} : ∀ {x y : R}, on x l = on y l → x = y := by
  induction l with
  | nil => intro x y h; exact h
  | cons c l ih =>
    intro x y h
    rw [on_cons, on_cons] at h
    exact step_inj_x (ih h)
theorem on_set (x : R) (l : List UInt8) (i : Nat) (hi : i < l.length) (d : UInt8) (h : on x (l.set i d) = on x l) : d = l[i] := by
  have e : l = l.take i ++ l[i] :: l.drop (i + 1) := by
    rw [List.getElem_cons_drop]; exact (List.take_append_drop i l).symm
  have e2 : l.set i d = l.take i ++ d :: l.drop (i + 1) := List.set_eq_take_append_cons_drop.trans (if_pos hi)
  rw [e2] at h
  conv at h => rhs; rw [e]
  rw [on_append, on_append, on_cons, on_cons] at h
  exact step_inj_c (on_inj h)
theorem crc_set (n : R) (l : List UInt8) (i : Nat) (hi : i < l.length) (d : UInt8) (hd : d ≠ l[i]) : crc n l ≠ crc n (l.set i d) := by
  intro h
  unfold crc at h
  have h2 := congrArg (fun z : R => ~~~z) h
  simp only [BitVec.not_not] at h2
  exact hd (on_set _ l i hi d h2.symm)
theorem fourL_inj {x y : R} (h : fourL x = fourL y) : x = y := by
  unfold fourL at h
  have hx := x.isLt
  have hy := y.isLt
  simp only [List.cons.injEq, and_true] at h
  obtain ⟨h0, h1, h2, h3⟩ := h
  have k0 := congrArg UInt8.toNat h0
  have k1 := congrArg UInt8.toNat h1
  have k2 := congrArg UInt8.toNat h2
  have k3 := congrArg UInt8.toNat h3
  simp only [UInt8.toNat_ofNat'] at k0 k1 k2 k3
  apply BitVec.eq_of_toNat_eq
  omega
/-- A frame whose data are others: none. -/
theorem nextL_turned (l t : List UInt8) (hl : l.length ≤ 32768) (ht : t.length = l.length) (h : crc 0 l ≠ crc 0 t) : nextL (numL l.length ++ (fourL (crc 0 l) ++ t)) = ([], [], 6) := by
  unfold nextL
  rw [getL_num _ ⟨by omega, by omega⟩]
  have h4 : (fourL (crc 0 l)).length = 4 := rfl
  simp only
  rw [if_neg (by simp), if_neg (by omega), if_neg (by omega), if_neg (by rw [List.length_append, h4]; omega), Int.toNat_natCast]
  have d4 : (fourL (crc 0 l) ++ t).drop 4 = t := by rw [← h4, List.drop_left]
  have t4 : (fourL (crc 0 l) ++ t).take 4 = fourL (crc 0 l) := by rw [← h4, List.take_left]
  rw [d4, t4, ← ht, List.take_length, if_neg (fun e => h (fourL_inj e))]
end Go.Proofs.Ytgcilfpoblijnaa.Sum
