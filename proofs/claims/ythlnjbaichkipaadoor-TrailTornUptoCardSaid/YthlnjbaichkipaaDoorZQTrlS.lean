-- by a program of this session
import Derived.Test.YthlnjbaichkipaaDoorZQWire
import Derived.Test.YthlnjbaichkipaaDoorZXR2
import Derived.Test.YthlnjbaichkipaaDoorZQSum
import Derived.Test.YthlnjbaichkipaaDoorZXR3
set_option linter.unusedVariables false
set_option linter.unusedSimpArgs false
namespace Go.Proofs.YthlnjbaichkipaaDoor.XR
open Go.RowKit Go.Proofs.YthlnjbaichkipaaDoorW.PrintWords Go.Proofs.YthlnjbaichkipaaDoorW.PrintLast Go.Proofs.YthlnjbaichkipaaDoor.Wire Go.Proofs.YthlnjbaichkipaaDoorW.PrintMore Go.Proofs.YthlnjbaichkipaaDoor.Sum
theorem head_or (h0 : Int) (nm : Nat) (h : h0 = 128 ∨ h0 = 0) (hn : nm ≤ 8) : Go.bits .or .u8 h0 (nm : Int) = h0 + nm := by
  rcases h with rfl | rfl
  · exact Go.u8_or128 (y := (nm : Int)) (by omega) (by omega)
  · have := Go.bits_join .u8 8 (by decide) Go.wraps_u8 6 0 (nm : Int) (by decide) (by decide) (by decide) (by omega) (by omega) (by omega)
    exact this
theorem put_bytes (n : Int) (hn : Fits n) : (wire_Put.bytes n).map (fun x => UInt8.ofNat x.toNat) = numL n := by
  have h8 := dig_len8 hn
  have hm : wire_Put.many n = (dig n.natAbs).length := many_eq _ (by unfold Fits at hn; omega)
  unfold wire_Put.bytes numL
  rw [List.map_cons, hm]
  congr 1
  · rw [head_or _ _ (by split <;> simp) h8]
    congr 1
    split <;> omega
  · apply List.ext_getElem
    · simp; omega
    · intro i h1 h2
      rw [dig_get _ _ h2, List.getElem_map, List.getElem_drop, List.getElem_map, List.getElem_range]
      unfold wire_Put.byte
      have e1 : 8 * (7 - (8 - (dig n.natAbs).length + i)) = 8 * ((dig n.natAbs).length - 1 - i) := by omega
      have e2 : (256 : Nat) ^ ((dig n.natAbs).length - 1 - i) = 2 ^ (8 * ((dig n.natAbs).length - 1 - i)) := by rw [Nat.pow_mul]
      rw [e1, e2]
      congr 1
theorem bt_list (s : ByteArray) (i : Nat) (h : i < s.data.toList.length) : bt s (i : Int) = ((s.data.toList[i]).toNat : Int) := by
  have h' : i < s.size := by rw [Array.length_toList] at h; exact h
  unfold bt
  rw [dif_pos (by rw [Int.toNat_natCast]; exact h')]
  simp only [Int.toNat_natCast]
  rfl
theorem andNot_eq (x : Nat) (h : x < 256) : Go.bits .andNot .u8 (x : Int) 128 = ((x % 128 : Nat) : Int) := by
  have : ∀ n : Fin 256, Go.bits .andNot .u8 (n.val : Int) 128 = ((n.val % 128 : Nat) : Int) := by decide +kernel
  exact this ⟨x, h⟩
theorem or_u64 (x c : Int) (h0 : 0 ≤ x) (h1 : x < 2 ^ 56) (c0 : 0 ≤ c) (c1 : c < 256) : Go.bits .or .u64 (IntKind.u64.wrap (x * 256)) c = x * 256 + c := by
  have e : IntKind.u64.wrap (x * 256) = x * 256 := by rw [IntKind.wrap_u64]; omega
  rw [e]
  exact Go.bits_join .u64 64 (by decide) (fun n a b => by rw [IntKind.wrap_u64]; omega) 8 (x * 256) c (by omega) (by omega) (by omega) c0 (by omega) (by omega)
theorem m_val (s : ByteArray) (h : UInt8) (t : List UInt8) (hs : s.data.toList = h :: t) (k : Nat) (hk : k ≤ 8) (ht : k ≤ t.length) : wire_GetNum.m s k = (val (t.take k) : Int) := by
  induction k with
  | zero => simp [wire_GetNum.m, val]
  | succ k ih =>
    have ih := ih (by omega) (by omega)
    have hl : val (t.take k) < 256 ^ k := by
      have := val_lt (t.take k)
      rwa [List.length_take, Nat.min_eq_left (by omega)] at this
    have hl2 : val (t.take k) < 256 ^ 7 := Nat.lt_of_lt_of_le hl (Nat.pow_le_pow_right (by decide) (by omega))
    have hb : bt s ((k : Int) + 1) = ((t[k]'(by omega)).toNat : Int) := by
      have := bt_list s (k + 1) (by rw [hs]; simp; omega)
      rw [show ((k : Int) + 1) = ((k + 1 : Nat) : Int) from rfl, this]
      congr 1
      simp only [hs]
      rfl
    have hc := (t[k]'(by omega)).toNat_lt
    unfold wire_GetNum.m
    rw [ih, hb, or_u64 _ _ (by omega) (by omega) (by omega) (by omega), List.take_succ_eq_append_getElem (by omega), val_snoc]
    omega
theorem get_eq (s : ByteArray) : wire_GetNum.f s = some ((getL s.data.toList).1, B (getL s.data.toList).2.1, (getL s.data.toList).2.2) := by
  unfold wire_GetNum.f
  cases hs : s.data.toList with
  | nil =>
    have : s.size = 0 := by rw [← data_length, hs]; rfl
    rw [if_pos this]; rfl
  | cons h t =>
    have hsz : s.size = t.length + 1 := by rw [← data_length, hs]; rfl
    have hh := h.toNat_lt
    have hb : bt s 0 = (h.toNat : Int) := by
      have := bt_list s 0 (by rw [hs]; simp)
      rw [show ((0 : Nat) : Int) = 0 from rfl] at this
      rw [this]; simp only [hs]; rfl
    have hb1 : ∀ d u, t = d :: u → bt s 1 = (d.toNat : Int) := by
      intro d u e
      have := bt_list s 1 (by rw [hs, e]; simp)
      rw [show ((1 : Nat) : Int) = 1 from rfl] at this
      rw [this]; simp only [hs, e]; rfl
    rw [if_neg (by omega), hb, andNot_eq _ hh, Int.toNat_natCast, getL]
    by_cases c1 : 8 < h.toNat % 128
    · rw [if_pos (by omega), if_pos c1]; rfl
    rw [if_neg (by omega), if_neg c1]
    by_cases c2 : t.length < h.toNat % 128
    · rw [if_pos (by omega), if_pos c2]; rfl
    rw [if_neg (by omega), if_neg c2]
    by_cases c3 : 0 < h.toNat % 128 ∧ t.head? = some 0
    · rw [if_pos, if_pos c3]
      · rfl
      · refine ⟨by omega, ?_⟩
        cases t with
        | nil => simp at c3
        | cons d u => rw [hb1 d u rfl]; simp at c3; rw [c3.2]; rfl
    rw [if_neg, if_neg c3]
    rotate_left
    · rintro ⟨h1, h2⟩
      refine c3 ⟨by omega, ?_⟩
      cases t with
      | nil => simp at c2; omega
      | cons d u =>
        rw [hb1 d u rfl] at h2
        have : d.toNat = 0 := by omega
        rw [List.head?_cons]
        congr 1
        exact UInt8.toNat_inj.mp (by simpa using this)
    rw [m_val s h t hs _ (by omega) (by omega)]
    have hlen : (t.take (h.toNat % 128)).length = h.toNat % 128 := by rw [List.length_take]; omega
    have hv := val_lt (t.take (h.toNat % 128))
    rw [hlen] at hv
    have hv8 : val (t.take (h.toNat % 128)) < 256 ^ 8 := Nat.lt_of_lt_of_le hv (Nat.pow_le_pow_right (by decide) (by omega))
    have hext : s.extract (h.toNat % 128 + 1) s.size = B (t.drop (h.toNat % 128)) := by
      apply ByteArray.ext
      apply Array.ext'
      rw [B_toList, ByteArray.data_extract, Array.toList_extract, hs, List.extract_eq_take_drop]
      rw [List.drop_succ_cons, List.take_of_length_le]
      rw [List.length_drop]; omega
    generalize hvv : val (t.take (h.toNat % 128)) = v at hv8 ⊢
    unfold wire_signed.f
    by_cases c4 : 128 ≤ h.toNat
    · have hd : ((decide ((128 : Int) ≤ (h.toNat : Int))) = true) = True := by simp; omega
      simp only [hd, if_true]
      rw [if_pos c4]
      by_cases c0 : 0 < v
      · rw [if_pos (by omega)]
        simp only [if_true, Option.bind_some]
        by_cases c5 : v ≤ 9223372036854775808
        · rw [if_pos (by rw [decide_eq_true_iff]; omega), if_pos ⟨c0, c5⟩, hext]
          simp only [Option.some.injEq, Prod.mk.injEq, and_true]
          rw [IntKind.wrap_u64]; unfold wrap64; omega
        · rw [if_neg (by rw [decide_eq_true_iff]; omega), if_neg (fun h => c5 h.2)]; rfl
      · rw [if_neg (by omega)]
        simp only [if_true, Option.bind_some]
        rw [if_neg (by simp), if_neg (fun h => c0 h.1)]; rfl
    · have hd : ((decide ((128 : Int) ≤ (h.toNat : Int))) = true) = False := by simp; omega
      rw [if_neg (by rw [hd]; exact id), Option.bind_some]
      rw [if_neg c4]
      by_cases c5 : v < 9223372036854775808
      · rw [if_pos (by rw [decide_eq_true_iff]; omega), if_pos c5, hext]
        simp only [Option.some.injEq, Prod.mk.injEq, and_true]
        unfold wrap64; omega
      · rw [if_neg (by rw [decide_eq_true_iff]; omega), if_neg c5]; rfl
theorem B_ext (s : ByteArray) (a b : Nat) : s.extract a b = B ((s.data.toList.drop a).take (b - a)) := by
  apply ByteArray.ext
  apply Array.ext'
  rw [B_toList, ByteArray.data_extract, Array.toList_extract, List.extract_eq_take_drop]
theorem data_size (s : ByteArray) : s.size = s.data.toList.length := (data_length s).symm
theorem num_eq (n : Int) (hn : Fits n) : wire_Num.f n = some (B (numL n)) := by
  unfold wire_Num.f wire_Put.f
  rw [if_pos ⟨hn.1, hn.2, by simp⟩]
  simp only [List.nil_append, Option.bind_some]
  congr 1
  unfold strOfNums B
  rw [put_bytes n hn]
theorem bits_xor (x y : R) : Go.bits .xor .u32 (x.toNat : Int) (y.toNat : Int) = ((x ^^^ y).toNat : Int) := by
  have h : (x ^^^ y).toNat < 4294967296 := (x ^^^ y).isLt
  show IntKind.u32.wrap (((BitVec.ofInt 32 (x.toNat : Int) ^^^ BitVec.ofInt 32 (y.toNat : Int)).toNat : Nat) : Int) = _
  rw [BitVec.ofInt_natCast, BitVec.ofInt_natCast, BitVec.ofNat_toNat, BitVec.ofNat_toNat, BitVec.setWidth_eq, BitVec.setWidth_eq, IntKind.wrap_u32]
  omega
theorem bits_and15 (x : R) : Go.bits .and .u32 (x.toNat : Int) 15 = ((x.toNat % 16 : Nat) : Int) := by
  have h : (x &&& 15#32).toNat < 4294967296 := (x &&& 15#32).isLt
  show IntKind.u32.wrap (((BitVec.ofInt 32 (x.toNat : Int) &&& BitVec.ofInt 32 15).toNat : Nat) : Int) = _
  rw [BitVec.ofInt_natCast, BitVec.ofNat_toNat, BitVec.setWidth_eq]
  have e : (x &&& BitVec.ofInt 32 15).toNat = x.toNat % 16 := by
    rw [BitVec.toNat_and]
    show x.toNat &&& 15 = _
    exact Nat.and_two_pow_sub_one_eq_mod x.toNat 4
  rw [e, IntKind.wrap_u32]
  omega
theorem tb_eq : ∀ i : Fin 16, sum_tb (i.val : Int) = ((tb i.val).toNat : Int) := by decide +kernel
theorem half4_eq (x : R) : sum_half4 (x.toNat : Int) = ((h4 x).toNat : Int) := by
  unfold sum_half4 h4
  have hm : x.toNat % 16 < 16 := Nat.mod_lt _ (by decide)
  have hd : (x.toNat : Int) / (16 : Int) = ((x >>> 4).toNat : Int) := by
    rw [BitVec.toNat_ushiftRight, Nat.shiftRight_eq_div_pow]; omega
  rw [bits_and15, tb_eq ⟨x.toNat % 16, hm⟩, hd, bits_xor]
theorem step_eq (x : R) (c : UInt8) : sum_step (x.toNat : Int) (c.toNat : Int) = ((Sum.step x c).toNat : Int) := by
  have hc : (c.toNat : Int) = ((BitVec.ofNat 32 c.toNat).toNat : Int) := by
    have := c.toNat_lt
    rw [BitVec.toNat_ofNat, Nat.mod_eq_of_lt (by omega)]
  unfold sum_step Sum.step
  rw [hc, bits_xor, half4_eq, half4_eq]
theorem to_eq (s : ByteArray) (x : R) (k : Nat) (hk : k ≤ s.data.toList.length) : sum_to s (x.toNat : Int) k = ((on x (s.data.toList.take k)).toNat : Int) := by
  induction k with
  | zero => simp [sum_to, on]
  | succ k ih =>
    unfold sum_to
    rw [ih (by omega), bt_list s k (by omega), step_eq, List.take_succ_eq_append_getElem (by omega), on_append]
    rfl
theorem not_eq (x : R) : Go.bits .xor .u32 IntKind.u32.max (x.toNat : Int) = ((~~~x).toNat : Int) := by
  have h := bits_xor (BitVec.allOnes 32) x
  rw [BitVec.allOnes_xor] at h
  exact h
theorem on_eq (x : R) (s : ByteArray) (h : s.size ≤ 9223372036854775806) : sum_On.f (x.toNat : Int) s = some ((crc x s.data.toList).toNat : Int) := by
  unfold sum_On.f
  rw [if_pos h, not_eq, to_eq s _ _ (by rw [data_length]; exact Nat.le_refl _), not_eq, data_size, List.take_length]
  rfl
theorem of_eq (s : ByteArray) (h : s.size ≤ 9223372036854775806) : sum_Of.f s = some ((crc 0 s.data.toList).toNat : Int) := by
  unfold sum_Of.f
  rw [show (0 : Int) = (((0 : R).toNat : Nat) : Int) from rfl, on_eq 0 s h]
  rfl
theorem bytes_eq (x : R) : sum_bytes.f (x.toNat : Int) = some (B (fourL x)) := by
  unfold sum_bytes.f
  have h := x.isLt
  congr 1
  unfold strOfNums B fourL
  congr 2
  simp only [List.map_cons, List.map_nil]
  congr 1
  · apply UInt8.toNat_inj.mp; simp; omega
  congr 1
  · apply UInt8.toNat_inj.mp; simp; omega
  congr 1
  · apply UInt8.toNat_inj.mp; simp; omega
  congr 1
  · apply UInt8.toNat_inj.mp; simp; omega
theorem B_tl (l : List UInt8) : (B l).toList = l := by rw [ByteArray.toList_eq, B_toList]
theorem frame_eq (l : List UInt8) : sum_Frame.f (B l) = if l.length ≤ 32768 then some (B (frameL l), 0) else some (B [], 12) := by
  unfold sum_Frame.f
  rw [B_size]
  by_cases h : l.length ≤ 32768
  · have h8 := dig_len8 (n := (l.length : Int)) ⟨by omega, by omega⟩
    rw [if_neg (by omega), if_pos h, num_eq _ ⟨by omega, by omega⟩, Option.bind_some, of_eq _ (by rw [B_size]; omega), B_toList, Option.bind_some, bytes_eq, Option.bind_some]
    have h4 : (fourL (crc 0 l)).length = 4 := rfl
    simp only [B_append, B_size, List.length_append, numL_length, h4]
    rw [if_pos (by omega), if_pos (by omega)]
    rfl
  · rw [if_pos (by omega), if_neg h]; rfl
theorem getL_rest (l : List UInt8) : (getL l).2.1.length ≤ l.length := by
  rcases getL_inv l with ⟨n, r, _, e, he⟩ | ⟨e, _, he⟩
  · rw [he]
    show r.length ≤ _
    rw [e, List.length_append]; omega
  · rw [he]; exact Nat.zero_le _
theorem ext4 (r : List UInt8) (n : Nat) : (B r).extract 4 (4 + n) = B ((r.drop 4).take n) := by
  rw [B_ext, B_toList, show 4 + n - 4 = n from by omega]
theorem ext_end (r : List UInt8) (n : Nat) : (B r).extract n r.length = B (r.drop n) := by
  rw [B_ext, B_toList, List.take_of_length_le (by rw [List.length_drop]; exact Nat.le_refl _)]
theorem ext04 (r : List UInt8) : ((B r).extract 0 4).toList = r.take 4 := by rw [B_ext, B_tl, B_toList]; rfl
theorem next_eq (s : ByteArray) (hs : s.size ≤ 9223372036854775000) : sum_Next.f s = some (B (nextL s.data.toList).1, B (nextL s.data.toList).2.1, (nextL s.data.toList).2.2) := by
  unfold sum_Next.f nextL
  rw [get_eq, Option.bind_some]
  have hr := getL_rest s.data.toList
  rw [← data_size] at hr
  generalize getL s.data.toList = q at hr ⊢
  obtain ⟨n, r, e⟩ := q
  simp only at hr ⊢
  by_cases c0 : e = 0
  rotate_left
  · rw [if_neg c0, if_pos c0]; rfl
  have c0' : ¬ (e ≠ 0) := fun h => h c0
  rw [if_pos c0, if_neg c0']
  by_cases c1 : n < 0
  · rw [if_pos c1, if_pos c1]; rfl
  rw [if_neg c1, if_neg c1]
  by_cases c2 : 32768 < n
  · rw [if_pos c2, if_pos c2]; rfl
  rw [if_neg c2, if_neg c2]
  have w1 : wrap64 (((B r).size : Int) - 4) = (r.length : Int) - 4 := by rw [B_size]; unfold wrap64; omega
  have w2 : wrap64 (4 + n) = 4 + n := by unfold wrap64; omega
  have w3 : (4 + n).toNat = 4 + n.toNat := by omega
  rw [w1, w2, w3, B_size]
  by_cases c3 : (r.length : Int) < 4 + n
  · rw [if_pos (by omega), if_pos c3]; rfl
  rw [if_neg (by omega), if_neg c3, if_pos (by omega), if_pos (by omega), if_pos (by omega), if_pos (by omega)]
  rw [ext4, of_eq _ (by rw [B_size, List.length_take]; omega), B_toList, Option.bind_some, bytes_eq, Option.bind_some, ext04, B_tl, ext_end]
  by_cases c4 : r.take 4 = fourL (crc 0 ((r.drop 4).take n.toNat))
  · rw [if_pos c4, if_pos c4, if_pos (by omega)]
  · rw [if_neg c4, if_neg c4]; rfl
end Go.Proofs.YthlnjbaichkipaaDoor.XR
