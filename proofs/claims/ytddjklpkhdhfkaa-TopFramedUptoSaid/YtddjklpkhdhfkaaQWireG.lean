-- by a program of this session
import Derived.Test.YtddjklpkhdhfkaaQWire
import Derived.Test.YtddjklpkhdhfkaaXT1
import Derived.Test.YtddjklpkhdhfkaaQList
set_option linter.unusedVariables false
set_option linter.unusedSimpArgs false
/-! Reading numbers and texts: the printed functions answer as the plain theory says. -/
namespace Go.Proofs.Ytddjklpkhdhfkaa.XT
open Go.RowKit Go.Proofs.YtddjklpkhdhfkaaW.PrintWords Go.Proofs.YtddjklpkhdhfkaaW.PrintLast Go.Proofs.Ytddjklpkhdhfkaa.Wire
set_option linter.unusedVariables false
theorem fits_of_wf {n : Int} (h : (Lit.int .i64 n).wf = true) : Fits n := by
  unfold Fits
  simp [Lit.wf, IntKind.min, IntKind.max, IntKind.signed, IntKind.bits] at h
  omega
theorem head_or (h0 : Int) (nm : Nat) (h : h0 = 128 ∨ h0 = 0) (hn : nm ≤ 8) : Go.bits .or .u8 h0 (nm : Int) = h0 + nm := by
  rcases h with rfl | rfl
  · exact Go.u8_or128 (y := (nm : Int)) (by omega) (by omega)
  · have := Go.bits_join .u8 8 (by decide) Go.wraps_u8 6 0 (nm : Int) (by decide) (by decide) (by decide) (by omega) (by omega) (by omega)
    exact this
theorem put_bytes (n : Int) (hn : Fits n) : (wire_Put.bytes n).map (fun x => UInt8.ofNat x.toNat) = numL n := by
  have h8 := dig_len8 hn
  have hm : wire_Put.many n = (dig n.natAbs).length := many_eq _ (by unfold Fits at hn; omega)
  unfold wire_Put.bytes numL
  rw [List.map_cons, hm]
  congr 1
  · rw [head_or _ _ (by split <;> simp) h8]
    congr 1
    split <;> omega
  · apply List.ext_getElem
    · simp; omega
    · intro i h1 h2
      rw [dig_get _ _ h2, List.getElem_map, List.getElem_drop, List.getElem_map, List.getElem_range]
      unfold wire_Put.byte
      have e1 : 8 * (7 - (8 - (dig n.natAbs).length + i)) = 8 * ((dig n.natAbs).length - 1 - i) := by omega
      have e2 : (256 : Nat) ^ ((dig n.natAbs).length - 1 - i) = 2 ^ (8 * ((dig n.natAbs).length - 1 - i)) := by rw [Nat.pow_mul]
      rw [e1, e2]
      congr 1
theorem bt_list (s : ByteArray) (i : Nat) (h : i < s.data.toList.length) : bt s (i : Int) = ((s.data.toList[i]).toNat : Int) := by
  have h' : i < s.size := by rw [Array.length_toList] at h; exact h
  unfold bt
  rw [dif_pos (by rw [Int.toNat_natCast]; exact h')]
  simp only [Int.toNat_natCast]
  rfl
theorem toList_inj {a b : ByteArray} (h : a.toList = b.toList) : a = b := by
  rw [ByteArray.toList_eq, ByteArray.toList_eq] at h
  exact ByteArray.ext (Array.ext' h)
theorem andNot_eq (x : Nat) (h : x < 256) : Go.bits .andNot .u8 (x : Int) 128 = ((x % 128 : Nat) : Int) := by
  have : ∀ n : Fin 256, Go.bits .andNot .u8 (n.val : Int) 128 = ((n.val % 128 : Nat) : Int) := by decide +kernel
  exact this ⟨x, h⟩
theorem or_u64 (x c : Int) (h0 : 0 ≤ x) (h1 : x < 2 ^ 56) (c0 : 0 ≤ c) (c1 : c < 256) : Go.bits .or .u64 (IntKind.u64.wrap (x * 256)) c = x * 256 + c := by
  have e : IntKind.u64.wrap (x * 256) = x * 256 := by rw [IntKind.wrap_u64]; omega
  rw [e]
  exact Go.bits_join .u64 64 (by decide) (fun n a b => by rw [IntKind.wrap_u64]; omega) 8 (x * 256) c (by omega) (by omega) (by omega) c0 (by omega) (by omega)
theorem m_val (s : ByteArray) (h : UInt8) (t : List UInt8) (hs : s.data.toList = h :: t) (k : Nat) (hk : k ≤ 8) (ht : k ≤ t.length) : wire_GetNum.m s k = (val (t.take k) : Int) := by
  induction k with
  | zero => simp [wire_GetNum.m, val]
  | succ k ih =>
    have ih := ih (by omega) (by omega)
    have hl : val (t.take k) < 256 ^ k := by
      have := val_lt (t.take k)
      rwa [List.length_take, Nat.min_eq_left (by omega)] at this
    have hl2 : val (t.take k) < 256 ^ 7 := Nat.lt_of_lt_of_le hl (Nat.pow_le_pow_right (by decide) (by omega))
    have hb : bt s ((k : Int) + 1) = ((t[k]'(by omega)).toNat : Int) := by
      have := bt_list s (k + 1) (by rw [hs]; simp; omega)
      rw [show ((k : Int) + 1) = ((k + 1 : Nat) : Int) from rfl, this]
      congr 1
      simp only [hs]
      rfl
    have hc := (t[k]'(by omega)).toNat_lt
    unfold wire_GetNum.m
    rw [ih, hb, or_u64 _ _ (by omega) (by omega) (by omega) (by omega), List.take_succ_eq_append_getElem (by omega), val_snoc]
    omega
theorem get_eq (s : ByteArray) : wire_GetNum.f s = some ((getL s.data.toList).1, B (getL s.data.toList).2.1, (getL s.data.toList).2.2) := by
  unfold wire_GetNum.f
  cases hs : s.data.toList with
  | nil =>
    have : s.size = 0 := by rw [← data_length, hs]; rfl
    rw [if_pos this]; rfl
  | cons h t =>
    have hsz : s.size = t.length + 1 := by rw [← data_length, hs]; rfl
    have hh := h.toNat_lt
    have hb : bt s 0 = (h.toNat : Int) := by
      have := bt_list s 0 (by rw [hs]; simp)
      rw [show ((0 : Nat) : Int) = 0 from rfl] at this
      rw [this]; simp only [hs]; rfl
    have hb1 : ∀ d u, t = d :: u → bt s 1 = (d.toNat : Int) := by
      intro d u e
      have := bt_list s 1 (by rw [hs, e]; simp)
      rw [show ((1 : Nat) : Int) = 1 from rfl] at this
      rw [this]; simp only [hs, e]; rfl
    rw [if_neg (by omega), hb, andNot_eq _ hh, Int.toNat_natCast, getL]
    by_cases c1 : 8 < h.toNat % 128
    · rw [if_pos (by omega), if_pos c1]; rfl
    rw [if_neg (by omega), if_neg c1]
    by_cases c2 : t.length < h.toNat % 128
    · rw [if_pos (by omega), if_pos c2]; rfl
    rw [if_neg (by omega), if_neg c2]
    by_cases c3 : 0 < h.toNat % 128 ∧ t.head? = some 0
    · rw [if_pos, if_pos c3]
      · rfl
      · refine ⟨by omega, ?_⟩
        cases t with
        | nil => simp at c3
        | cons d u => rw [hb1 d u rfl]; simp at c3; rw [c3.2]; rfl
    rw [if_neg, if_neg c3]
    rotate_left
    · rintro ⟨h1, h2⟩
      refine c3 ⟨by omega, ?_⟩
      cases t with
      | nil => simp at c2; omega
      | cons d u =>
        rw [hb1 d u rfl] at h2
        have : d.toNat = 0 := by omega
        rw [List.head?_cons]
        congr 1
        exact UInt8.toNat_inj.mp (by simpa using this)
    rw [m_val s h t hs _ (by omega) (by omega)]
    have hlen : (t.take (h.toNat % 128)).length = h.toNat % 128 := by rw [List.length_take]; omega
    have hv := val_lt (t.take (h.toNat % 128))
    rw [hlen] at hv
    have hv8 : val (t.take (h.toNat % 128)) < 256 ^ 8 := Nat.lt_of_lt_of_le hv (Nat.pow_le_pow_right (by decide) (by omega))
    have hext : s.extract (h.toNat % 128 + 1) s.size = B (t.drop (h.toNat % 128)) := by
      apply ByteArray.ext
      apply Array.ext'
      rw [B_toList, ByteArray.data_extract, Array.toList_extract, hs, List.extract_eq_take_drop]
      rw [List.drop_succ_cons, List.take_of_length_le]
      rw [List.length_drop]; omega
    generalize hvv : val (t.take (h.toNat % 128)) = v at hv8 ⊢
    unfold wire_signed.f
    by_cases c4 : 128 ≤ h.toNat
    · have hd : ((decide ((128 : Int) ≤ (h.toNat : Int))) = true) = True := by simp; omega
      simp only [hd, if_true]
      rw [if_pos c4]
      by_cases c0 : 0 < v
      · rw [if_pos (by omega)]
        simp only [if_true, Option.bind_some]
        by_cases c5 : v ≤ 9223372036854775808
        · rw [if_pos (by rw [decide_eq_true_iff]; omega), if_pos ⟨c0, c5⟩, hext]
          simp only [Option.some.injEq, Prod.mk.injEq, and_true]
          rw [IntKind.wrap_u64]; unfold wrap64; omega
        · rw [if_neg (by rw [decide_eq_true_iff]; omega), if_neg (fun h => c5 h.2)]; rfl
      · rw [if_neg (by omega)]
        simp only [if_true, Option.bind_some]
        rw [if_neg (by simp), if_neg (fun h => c0 h.1)]; rfl
    · have hd : ((decide ((128 : Int) ≤ (h.toNat : Int))) = true) = False := by simp; omega
      rw [if_neg (by rw [hd]; exact id), Option.bind_some]
      rw [if_neg c4]
      by_cases c5 : v < 9223372036854775808
      · rw [if_pos (by rw [decide_eq_true_iff]; omega), if_pos c5, hext]
        simp only [Option.some.injEq, Prod.mk.injEq, and_true]
        unfold wrap64; omega
      · rw [if_neg (by rw [decide_eq_true_iff]; omega), if_neg c5]; rfl
theorem B_nil : (⟨#[]⟩ : ByteArray) = B [] := rfl
theorem B_ext (s : ByteArray) (a b : Nat) : s.extract a b = B ((s.data.toList.drop a).take (b - a)) := by
  apply ByteArray.ext
  apply Array.ext'
  rw [B_toList, ByteArray.data_extract, Array.toList_extract, List.extract_eq_take_drop]
theorem data_size (s : ByteArray) : s.size = s.data.toList.length := (data_length s).symm
theorem getL_err (l : List UInt8) : (getL l).2.2 = 0 ∨ ((getL l).2.2 = 5 ∨ (getL l).2.2 = 7) ∧ (getL l).1 = 0 ∧ (getL l).2.1 = [] := by
  rcases getL_inv l with ⟨n, r, _, _, h⟩ | ⟨e, he, h⟩
  · left; rw [h]
  · right; rw [h]; exact ⟨he, rfl, rfl⟩
theorem rd_text_eq (s : ByteArray) (k : Nat) (hk : 1 ≤ k) : ∃ s1, wire_Reader_Text.f k s 0 = some (B (getTL s.data.toList).1, s1, (getTL s.data.toList).2.2) ∧ ((getTL s.data.toList).2.2 = 0 → s1 = B (getTL s.data.toList).2.1) := by
  obtain ⟨k, rfl⟩ : ∃ m, k = m + 1 := ⟨k - 1, by omega⟩
  have hg := get_eq s
  have he := getL_err s.data.toList
  unfold wire_Reader_Text.f wire_Reader_Many.f wire_Reader_Num.f getTL
  rw [if_pos rfl, hg]
  generalize getL s.data.toList = q at he ⊢
  obtain ⟨n, r, e⟩ := q
  simp only [Option.bind_some] at he ⊢
  rcases he with rfl | ⟨he, rfl, rfl⟩
  · rw [if_neg (show ¬ ((0 : Int) ≠ 0) by omega)]
    by_cases c1 : n < 0
    · rw [if_pos c1, if_pos c1]
      exact ⟨B r, by simp [wire_Reader_Text.j0, B_nil], fun h => absurd h (by decide)⟩
    rw [if_neg c1, if_neg c1]
    by_cases c2 : 4096 < n
    · rw [if_pos (show n > 4096 from c2), if_pos c2]
      exact ⟨B r, by simp [wire_Reader_Text.j0, B_nil], fun h => absurd h (by decide)⟩
    rw [if_neg (show ¬ n > 4096 from c2), if_neg c2, if_pos rfl]
    simp only [Option.bind_some, B_size]
    rw [if_pos True.intro]
    have hj : ∀ b, wire_Reader_Text.j0 (k + 1) n b (B r) 0 = if b = true then some ((⟨#[]⟩ : ByteArray), B r, 5) else (if 0 ≤ n then (if n ≤ ((B r).size : Int) then (some ((B r).extract 0 (n : Int).toNat, (B r).extract (n : Int).toNat (B r).size, 0)) else (none)) else (none)) := fun b => rfl
    rw [hj]
    by_cases c3 : (r.length : Int) < n
    · rw [if_pos (decide_eq_true c3), if_pos c3]
      exact ⟨B r, by simp [B_nil], fun h => absurd h (by decide)⟩
    · rw [if_neg (by simpa using c3), if_neg c3, if_pos (by omega), if_pos (by rw [B_size]; omega)]
      rw [B_ext, B_ext, B_toList, B_size, Nat.sub_zero, List.drop_zero, List.take_of_length_le (l := r.drop n.toNat)]
      · exact ⟨_, rfl, fun _ => rfl⟩
      · rw [List.length_drop]; omega
  · have h0 : ¬ e = 0 := by omega
    rw [if_neg (by omega), if_neg (by omega), if_neg h0, if_pos (show e ≠ 0 from h0)]
    simp only [Option.bind_some]
    rw [if_neg h0]
    exact ⟨B [], by simp [wire_Reader_Text.j0, B_nil, h0], fun h => absurd h h0⟩
theorem reader_text (s : ByteArray) (k : Nat) (hk : 1 ≤ k) : ∃ s1, wire_Reader_Text.f k s 0 = some ((decT s.data.toList).1, s1, (decT s.data.toList).2.2) ∧ ((decT s.data.toList).2.2 = 0 → s1 = B (decT s.data.toList).2.1) := rd_text_eq s k hk
theorem reader_num (s : ByteArray) : ∃ s1, wire_Reader_Num.f s 0 = some ((getL s.data.toList).1, s1, (getL s.data.toList).2.2) ∧ ((getL s.data.toList).2.2 = 0 → s1 = B (getL s.data.toList).2.1) := by
  unfold wire_Reader_Num.f
  rw [if_pos rfl, get_eq, Option.bind_some]
  exact ⟨_, rfl, fun _ => rfl⟩
end Go.Proofs.Ytddjklpkhdhfkaa.XT
