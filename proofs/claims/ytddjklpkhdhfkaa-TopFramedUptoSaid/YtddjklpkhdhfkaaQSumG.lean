-- by a program of this session
import Derived.Test.YtddjklpkhdhfkaaQSum
import Derived.Test.YtddjklpkhdhfkaaQWireN
import Derived.Test.YtddjklpkhdhfkaaXT2
import Derived.Test.YtddjklpkhdhfkaaXT3
set_option linter.unusedVariables false
set_option linter.unusedSimpArgs false
/-! The printed functions of sums answer as the plain theory says. -/
namespace Go.Proofs.Ytddjklpkhdhfkaa.XT
open Go.RowKit Go.Proofs.YtddjklpkhdhfkaaW.PrintWords Go.Proofs.YtddjklpkhdhfkaaW.PrintLast Go.Proofs.YtddjklpkhdhfkaaW.PrintMore Go.Proofs.Ytddjklpkhdhfkaa.Wire Go.Proofs.Ytddjklpkhdhfkaa.Sum
theorem bits_xor (x y : R) : Go.bits .xor .u32 (x.toNat : Int) (y.toNat : Int) = ((x ^^^ y).toNat : Int) := by
  have h : (x ^^^ y).toNat < 4294967296 := (x ^^^ y).isLt
  show IntKind.u32.wrap (((BitVec.ofInt 32 (x.toNat : Int) ^^^ BitVec.ofInt 32 (y.toNat : Int)).toNat : Nat) : Int) = _
  rw [BitVec.ofInt_natCast, BitVec.ofInt_natCast, BitVec.ofNat_toNat, BitVec.ofNat_toNat, BitVec.setWidth_eq, BitVec.setWidth_eq, IntKind.wrap_u32]
  omega
theorem bits_and15 (x : R) : Go.bits .and .u32 (x.toNat : Int) 15 = ((x.toNat % 16 : Nat) : Int) := by
  have h : (x &&& 15#32).toNat < 4294967296 := (x &&& 15#32).isLt
  show IntKind.u32.wrap (((BitVec.ofInt 32 (x.toNat : Int) &&& BitVec.ofInt 32 15).toNat : Nat) : Int) = _
  rw [BitVec.ofInt_natCast, BitVec.ofNat_toNat, BitVec.setWidth_eq]
  have e : (x &&& BitVec.ofInt 32 15).toNat = x.toNat % 16 := by
    rw [BitVec.toNat_and]
    show x.toNat &&& 15 = _
    exact Nat.and_two_pow_sub_one_eq_mod x.toNat 4
  rw [e, IntKind.wrap_u32]
  omega
theorem tb_eq : ∀ i : Fin 16, sum_tb (i.val : Int) = ((tb i.val).toNat : Int) := by decide +kernel
theorem half4_eq (x : R) : sum_half4 (x.toNat : Int) = ((h4 x).toNat : Int) := by
  unfold sum_half4 h4
  have hm : x.toNat % 16 < 16 := Nat.mod_lt _ (by decide)
  have hd : (x.toNat : Int) / (16 : Int) = ((x >>> 4).toNat : Int) := by
    rw [BitVec.toNat_ushiftRight, Nat.shiftRight_eq_div_pow]; omega
  rw [bits_and15, tb_eq ⟨x.toNat % 16, hm⟩, hd, bits_xor]
theorem step_eq (x : R) (c : UInt8) : sum_step (x.toNat : Int) (c.toNat : Int) = ((Sum.step x c).toNat : Int) := by
  have hc : (c.toNat : Int) = ((BitVec.ofNat 32 c.toNat).toNat : Int) := by
    have := c.toNat_lt
    rw [BitVec.toNat_ofNat, Nat.mod_eq_of_lt (by omega)]
  unfold sum_step Sum.step
  rw [hc, bits_xor, half4_eq, half4_eq]
theorem to_eq (s : ByteArray) (x : R) (k : Nat) (hk : k ≤ s.data.toList.length) : sum_to s (x.toNat : Int) k = ((on x (s.data.toList.take k)).toNat : Int) := by
  induction k with
  | zero => simp [sum_to, on]
  | succ k ih =>
    unfold sum_to
    rw [ih (by omega), bt_list s k (by omega), step_eq, List.take_succ_eq_append_getElem (by omega), on_append]
    rfl
theorem not_eq (x : R) : Go.bits .xor .u32 IntKind.u32.max (x.toNat : Int) = ((~~~x).toNat : Int) := by
  have h := bits_xor (BitVec.allOnes 32) x
  rw [BitVec.allOnes_xor] at h
  exact h
theorem on_eq (x : R) (s : ByteArray) (h : s.size ≤ 9223372036854775806) : sum_On.f (x.toNat : Int) s = some ((crc x s.data.toList).toNat : Int) := by
  unfold sum_On.f
  rw [if_pos h, not_eq, to_eq s _ _ (by rw [data_length]; exact Nat.le_refl _), not_eq, data_size, List.take_length]
  rfl
theorem of_eq (s : ByteArray) (h : s.size ≤ 9223372036854775806) : sum_Of.f s = some ((crc 0 s.data.toList).toNat : Int) := by
  unfold sum_Of.f
  rw [show (0 : Int) = (((0 : R).toNat : Nat) : Int) from rfl, on_eq 0 s h]
  rfl
theorem fold_eq (l : List ByteArray) (x : R) (k : Nat) (hk : k ≤ l.length) : sum_fold l (x.toNat : Int) k = ((on x ((l.take k).map (fun s => s.data.toList)).flatten).toNat : Int) := by
  induction k with
  | zero => simp [sum_fold, on]
  | succ k ih =>
    have hr : rdOf ByteArray.empty l (k : Int) = l[k]'(by omega) := by
      unfold rdOf
      rw [Int.toNat_natCast, List.getD_eq_getElem?_getD, List.getElem?_eq_getElem (by omega)]; rfl
    unfold sum_fold
    rw [ih (by omega), hr, to_eq _ _ _ (by rw [data_length]; exact Nat.le_refl _), data_size, List.take_length, List.take_succ_eq_append_getElem (by omega), List.map_append, List.flatten_append, on_append]
    simp
theorem fold_of (l : List ByteArray) (h : ∀ s ∈ l, s.size ≤ 9223372036854775806) : sum_Fold.f l = some ((crc 0 (l.map (fun s => s.data.toList)).flatten).toNat : Int) := by
  unfold sum_Fold.f
  rw [if_pos h, show (4294967295 : Int) = (((~~~(0 : R)).toNat : Nat) : Int) from rfl, fold_eq l _ _ (Nat.le_refl _), List.take_length, not_eq]
  rfl
theorem bytes_eq (x : R) : sum_bytes.f (x.toNat : Int) = some (B (fourL x)) := by
  unfold sum_bytes.f
  have h := x.isLt
  congr 1
  unfold strOfNums B fourL
  congr 2
  simp only [List.map_cons, List.map_nil]
  congr 1
  · apply UInt8.toNat_inj.mp; simp; omega
  congr 1
  · apply UInt8.toNat_inj.mp; simp; omega
  congr 1
  · apply UInt8.toNat_inj.mp; simp; omega
  congr 1
  · apply UInt8.toNat_inj.mp; simp; omega
theorem B_tl (l : List UInt8) : (B l).toList = l := by rw [ByteArray.toList_eq, B_toList]
theorem wrap_lt8 (j : Nat) (h : j < 8) : IntKind.u64.wrap (j : Int) = (j : Int) := by rw [IntKind.wrap_u64]; omega
theorem shr_u8 (c : UInt8) (j : Nat) (h : j < 8) : (shr .u8 (c.toNat : Int) (j : Int)) % 4294967296 = (((BitVec.ofNat 32 c.toNat) >>> j).toNat : Int) := by
  have hc := c.toNat_lt
  have hm : min j IntKind.u8.bits = j := by show min j 8 = j; omega
  unfold shr
  rw [Int.toNat_natCast, hm, BitVec.toNat_ushiftRight, BitVec.toNat_ofNat, Nat.mod_eq_of_lt (by omega), Nat.shiftRight_eq_div_pow]
  have e : (c.toNat : Int) / 2 ^ j = ((c.toNat / 2 ^ j : Nat) : Int) := by rw [Int.natCast_ediv, Int.natCast_pow]; rfl
  rw [e]
  have := Nat.div_le_self c.toNat (2 ^ j)
  generalize c.toNat / 2 ^ j = q at this ⊢
  omega
theorem bit_eq (x c : R) : (if Int.tmod (Go.bits .xor .u32 (x.toNat : Int) (c.toNat : Int)) 2 = 1 then Go.bits .xor .u32 ((Int.tdiv (x.toNat : Int) 2) % 4294967296) 2197175160 else (Int.tdiv (x.toNat : Int) 2) % 4294967296) = ((bit x c).toNat : Int) := by
  have hx := x.isLt
  have h : (Int.tdiv (x.toNat : Int) 2) % (4294967296 : Int) = ((x >>> 1).toNat : Int) := by
    rw [Int.tdiv_eq_ediv_of_nonneg (by omega), BitVec.toNat_ushiftRight, Nat.shiftRight_eq_div_pow]; omega
  have hP : (2197175160 : Int) = ((P.toNat : Nat) : Int) := rfl
  rw [h, hP, bits_xor, bits_xor]
  have hb : (Int.tmod ((x ^^^ c).toNat : Int) 2 = 1) ↔ (x ^^^ c).getLsbD 0 = true := by
    rw [Int.tmod_eq_emod_of_nonneg (by omega)]
    unfold BitVec.getLsbD
    rw [Nat.testBit_zero, decide_eq_true_iff]
    omega
  unfold bit
  by_cases hc : (x ^^^ c).getLsbD 0 = true
  · rw [if_pos (hb.mpr hc), if_pos hc]
  · rw [if_neg (fun h => hc (hb.mp h)), if_neg hc, BitVec.xor_zero]
theorem nat_wrap (i : Nat) (h : i ≤ 9223372036854775806) : wrap64 ((i : Int) + 1) = ((i + 1 : Nat) : Int) := by unfold wrap64; omega
theorem compl_eq (x : R) : (4294967295 - (x.toNat : Int)) % 4294967296 = ((~~~x).toNat : Int) := by
  have := x.isLt
  rw [BitVec.toNat_not]
  omega
theorem frame_eq (l : List UInt8) : sum_Frame.f (B l) = if l.length ≤ 32768 then some (B (frameL l), 0) else some (B [], 12) := by
  unfold sum_Frame.f
  rw [B_size]
  by_cases h : l.length ≤ 32768
  · have h8 := dig_len8 (n := (l.length : Int)) ⟨by omega, by omega⟩
    rw [if_neg (by omega), if_pos h, num_eq _ ⟨by omega, by omega⟩, Option.bind_some, of_eq _ (by rw [B_size]; omega), B_toList, Option.bind_some, bytes_eq, Option.bind_some]
    have h4 : (fourL (crc 0 l)).length = 4 := rfl
    simp only [B_append, B_size, List.length_append, numL_length, h4]
    rw [if_pos (by omega), if_pos (by omega)]
    rfl
  · rw [if_pos (by omega), if_neg h]; rfl
theorem getL_rest (l : List UInt8) : (getL l).2.1.length ≤ l.length := by
  rcases getL_inv l with ⟨n, r, _, e, he⟩ | ⟨e, _, he⟩
  · rw [he]
    show r.length ≤ _
    rw [e, List.length_append]; omega
  · rw [he]; exact Nat.zero_le _
theorem ext4 (r : List UInt8) (n : Nat) : (B r).extract 4 (4 + n) = B ((r.drop 4).take n) := by
  rw [B_ext, B_toList, show 4 + n - 4 = n from by omega]
theorem ext_end (r : List UInt8) (n : Nat) : (B r).extract n r.length = B (r.drop n) := by
  rw [B_ext, B_toList, List.take_of_length_le (by rw [List.length_drop]; exact Nat.le_refl _)]
theorem ext04 (r : List UInt8) : ((B r).extract 0 4).toList = r.take 4 := by rw [B_ext, B_tl, B_toList]; rfl
theorem next_eq (s : ByteArray) (hs : s.size ≤ 9223372036854775000) : sum_Next.f s = some (B (nextL s.data.toList).1, B (nextL s.data.toList).2.1, (nextL s.data.toList).2.2) := by
  unfold sum_Next.f nextL
  rw [get_eq, Option.bind_some]
  have hr := getL_rest s.data.toList
  rw [← data_size] at hr
  generalize getL s.data.toList = q at hr ⊢
  obtain ⟨n, r, e⟩ := q
  simp only at hr ⊢
  by_cases c0 : e = 0
  rotate_left
  · rw [if_neg c0, if_pos c0]; rfl
  have c0' : ¬ (e ≠ 0) := fun h => h c0
  rw [if_pos c0, if_neg c0']
  by_cases c1 : n < 0
  · rw [if_pos c1, if_pos c1]; rfl
  rw [if_neg c1, if_neg c1]
  by_cases c2 : 32768 < n
  · rw [if_pos c2, if_pos c2]; rfl
  rw [if_neg c2, if_neg c2]
  have w1 : wrap64 (((B r).size : Int) - 4) = (r.length : Int) - 4 := by rw [B_size]; unfold wrap64; omega
  have w2 : wrap64 (4 + n) = 4 + n := by unfold wrap64; omega
  have w3 : (4 + n).toNat = 4 + n.toNat := by omega
  rw [w1, w2, w3, B_size]
  by_cases c3 : (r.length : Int) < 4 + n
  · rw [if_pos (by omega), if_pos c3]; rfl
  rw [if_neg (by omega), if_neg c3, if_pos (by omega), if_pos (by omega), if_pos (by omega), if_pos (by omega)]
  rw [ext4, of_eq _ (by rw [B_size, List.length_take]; omega), B_toList, Option.bind_some, bytes_eq, Option.bind_some, ext04, B_tl, ext_end]
  by_cases c4 : r.take 4 = fourL (crc 0 ((r.drop 4).take n.toNat))
  · rw [if_pos c4, if_pos c4, if_pos (by omega)]
  · rw [if_neg c4, if_neg c4]; rfl
/-- Every number of 32 bits is one of the theory's. -/
theorem u32_of {n : Int} (h : (Lit.int .u32 n).wf = true) : ∃ x : R, n = (x.toNat : Int) := by
  have h' : (IntKind.u32.min ≤ n ∧ n ≤ IntKind.u32.max) := by simpa [Lit.wf] using h
  have h0 : (0 : Int) ≤ n := h'.1
  have h1 : n ≤ 4294967295 := h'.2
  exact ⟨BitVec.ofNat 32 n.toNat, by rw [BitVec.toNat_ofNat]; omega⟩
end Go.Proofs.Ytddjklpkhdhfkaa.XT
