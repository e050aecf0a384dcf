/- For every text, place and byte: data of which one byte is another have another sum, and the frame with that byte is none. No condition but the row's own bounds. -/
import Derived.Test.YtgcilfpoblijnaaX10
import Derived.Test.YtgcilfpoblijnaaQSumLives
import Derived.Test.YtgcilfpoblijnaaQTurned
set_option linter.unusedVariables false
set_option linter.unusedSimpArgs false
namespace Go.Proofs.Ytgcilfpoblijnaa.Pure
open Go.RowKit Go.Proofs.Ytgcilfpoblijnaa.X Go.Proofs.YtgcilfpoblijnaaW.PrintWords Go.Proofs.YtgcilfpoblijnaaW.PrintLast Go.Proofs.Ytgcilfpoblijnaa.Wire Go.Proofs.Ytgcilfpoblijnaa.Sum
theorem u8_other (c : UInt8) (b : Int) (h0 : 0 ≤ b) (h1 : b < 256) (hb : b ≠ 0) : UInt8.ofNat (Go.bits .xor .u8 (c.toNat : Int) b).toNat ≠ c := by
  intro e
  have hc := c.toNat_lt
  have e1 := congrArg UInt8.toNat e
  obtain ⟨n, rfl⟩ : ∃ n : Nat, b = (n : Int) := ⟨b.toNat, by omega⟩
  have hw : Go.bits .xor .u8 (c.toNat : Int) (n : Int) = IntKind.u8.wrap (((BitVec.ofNat 8 c.toNat ^^^ BitVec.ofNat 8 n).toNat : Nat) : Int) := by
    rw [← BitVec.ofInt_natCast, ← BitVec.ofInt_natCast]; rfl
  rw [hw, IntKind.wrap_u8, UInt8.toNat_ofNat'] at e1
  have hlt := (BitVec.ofNat 8 c.toNat ^^^ BitVec.ofNat 8 n).isLt
  have e2 : (BitVec.ofNat 8 c.toNat ^^^ BitVec.ofNat 8 n).toNat = (BitVec.ofNat 8 c.toNat).toNat := by
    have e6 : (BitVec.ofNat 8 c.toNat).toNat = c.toNat % 2 ^ 8 := BitVec.toNat_ofNat _ _
    rw [e6]
    omega
  have e3 := BitVec.eq_of_toNat_eq e2
  have e4 := congrArg (BitVec.ofNat 8 c.toNat ^^^ ·) e3
  simp only [← BitVec.xor_assoc, BitVec.xor_self, BitVec.zero_xor] at e4
  have e5 := congrArg BitVec.toNat e4
  rw [BitVec.toNat_ofNat] at e5
  simp at e5
  omega
theorem SumTurned : bellmanlaw02_SumTurned.Pure := by
  intro s a b hs ha hb
  have hb' : 0 ≤ b ∧ b < 256 := by
    simp [Lit.wf, IntKind.min, IntKind.max, IntKind.signed, IntKind.bits] at hb
    omega
  have hsz := data_size s
  unfold bellmanlaw02_SumTurned.f
  rw [if_pos ⟨hs, lives_ok⟩]
  by_cases hc : b = 0 ∨ a < 0 ∨ (s.size : Int) ≤ a
  · rw [if_pos hc]
  rw [if_neg hc]
  obtain ⟨i, rfl⟩ : ∃ i : Nat, a = (i : Int) := ⟨a.toNat, by omega⟩
  have hi : i < s.data.toList.length := by omega
  have hne : UInt8.ofNat (Go.bits .xor .u8 (bt s (i : Int)) b).toNat ≠ s.data.toList[i] := by
    rw [bt_list s i hi]
    exact u8_other _ b hb'.1 hb'.2 (fun e => hc (.inl e))
  have ht : bellmanlaw02_SumTurned.t s (i : Int) b = B (s.data.toList.set i (UInt8.ofNat (Go.bits .xor .u8 (bt s (i : Int)) b).toNat)) := rfl
  rw [ht]
  have hcrc := crc_set 0 s.data.toList i hi _ hne
  generalize htl : s.data.toList.set i (UInt8.ofNat (Go.bits .xor .u8 (bt s (i : Int)) b).toNat) = t at hcrc ⊢
  have hlen : t.length = s.data.toList.length := by rw [← htl, List.length_set]
  clear htl hne
  have hf := frame_eq s.data.toList
  rw [B_data] at hf
  have ho : ((crc 0 s.data.toList).toNat : Int) ≠ ((crc 0 t).toNat : Int) := by
    intro e
    exact hcrc (BitVec.eq_of_toNat_eq (by omega))
  have hbne : (((crc 0 s.data.toList).toNat : Int) != ((crc 0 t).toNat : Int)) = true := bne_iff_ne.mpr ho
  rw [hf, of_eq s (by omega), of_eq (B t) (by rw [B_size]; omega), B_toList]
  by_cases h : s.data.toList.length ≤ 32768
  · rw [if_pos h]
    simp only [Option.bind_some]
    have h8 := dig_len8 (n := (s.data.toList.length : Int)) ⟨by omega, by omega⟩
    have h4 : (fourL (crc 0 s.data.toList)).length = 4 := rfl
    have hl : (frameL s.data.toList).length = (dig (s.data.toList.length : Int).natAbs).length + 1 + 4 + s.data.toList.length := by
      unfold frameL
      rw [List.length_append, List.length_append, numL_length, h4]
    rw [if_pos trivial, B_size, if_pos ⟨by omega, by omega⟩, B_ext, B_toList]
    have hcut : ((frameL s.data.toList).drop 0).take ((frameL s.data.toList).length - s.size - 0) = numL s.data.toList.length ++ fourL (crc 0 s.data.toList) := by
      rw [List.drop_zero, show (frameL s.data.toList).length - s.size - 0 = (numL s.data.toList.length ++ fourL (crc 0 s.data.toList)).length by rw [List.length_append, numL_length, h4]; omega]
      unfold frameL
      rw [List.take_left]
    rw [hcut, B_append, List.append_assoc, next_eq _ (by rw [B_size, List.length_append, List.length_append, numL_length, h4]; omega), B_toList, nextL_turned _ t h hlen hcrc, Option.bind_some, hbne]
    rfl
  · rw [if_neg h]
    simp only [Option.bind_some]
    rw [if_neg (by decide), hbne]
end Go.Proofs.Ytgcilfpoblijnaa.Pure
