-- by a program of this session
import Derived.Test.YtgcilfpoblijnaaQWire
import Derived.Test.YtgcilfpoblijnaaXL4
import Derived.Test.YtgcilfpoblijnaaXL1
import Derived.Test.YtgcilfpoblijnaaXL2
import Derived.Test.YtgcilfpoblijnaaXL3
set_option linter.unusedVariables false
set_option linter.unusedSimpArgs false
/-! The printed functions of numbers and texts answer as the plain theory says. -/
namespace Go.Proofs.Ytgcilfpoblijnaa.XL
open Go.RowKit Go.Proofs.YtgcilfpoblijnaaW.PrintWords Go.Proofs.YtgcilfpoblijnaaW.PrintLast Go.Proofs.Ytgcilfpoblijnaa.Wire
set_option linter.unusedVariables false
theorem fits_of_wf {n : Int} (h : (Lit.int .i64 n).wf = true) : Fits n := by
  unfold Fits
  simp [Lit.wf, IntKind.min, IntKind.max, IntKind.signed, IntKind.bits] at h
  omega
theorem head_or (h0 : Int) (nm : Nat) (h : h0 = 128 ∨ h0 = 0) (hn : nm ≤ 8) : Go.bits .or .u8 h0 (nm : Int) = h0 + nm := by
  rcases h with rfl | rfl
  · exact Go.u8_or128 (y := (nm : Int)) (by omega) (by omega)
  · have := Go.bits_join .u8 8 (by decide) Go.wraps_u8 6 0 (nm : Int) (by decide) (by decide) (by decide) (by omega) (by omega) (by omega)
    exact this
theorem put_bytes (n : Int) (hn : Fits n) : (wire_Put.bytes n).map (fun x => UInt8.ofNat x.toNat) = numL n := by
  have h8 := dig_len8 hn
  have hm : wire_Put.many n = (dig n.natAbs).length := many_eq _ (by unfold Fits at hn; omega)
  unfold wire_Put.bytes numL
  rw [List.map_cons, hm]
  congr 1
  · rw [head_or _ _ (by split <;> simp) h8]
    congr 1
    split <;> omega
  · apply List.ext_getElem
    · simp; omega
    · intro i h1 h2
      rw [dig_get _ _ h2, List.getElem_map, List.getElem_drop, List.getElem_map, List.getElem_range]
      unfold wire_Put.byte
      have e1 : 8 * (7 - (8 - (dig n.natAbs).length + i)) = 8 * ((dig n.natAbs).length - 1 - i) := by omega
      have e2 : (256 : Nat) ^ ((dig n.natAbs).length - 1 - i) = 2 ^ (8 * ((dig n.natAbs).length - 1 - i)) := by rw [Nat.pow_mul]
      rw [e1, e2]
      congr 1
theorem num_eq (n : Int) (hn : Fits n) : wire_Num.f n = some (B (numL n)) := by
  unfold wire_Num.f wire_Put.f
  rw [if_pos ⟨hn.1, hn.2, by simp⟩]
  simp only [List.nil_append, Option.bind_some]
  congr 1
  unfold strOfNums B
  rw [put_bytes n hn]
theorem bt_list (s : ByteArray) (i : Nat) (h : i < s.data.toList.length) : bt s (i : Int) = ((s.data.toList[i]).toNat : Int) := by
  have h' : i < s.size := by rw [Array.length_toList] at h; exact h
  unfold bt
  rw [dif_pos (by rw [Int.toNat_natCast]; exact h')]
  simp only [Int.toNat_natCast]
  rfl
theorem toList_inj {a b : ByteArray} (h : a.toList = b.toList) : a = b := by
  rw [ByteArray.toList_eq, ByteArray.toList_eq] at h
  exact ByteArray.ext (Array.ext' h)
theorem andNot_eq (x : Nat) (h : x < 256) : Go.bits .andNot .u8 (x : Int) 128 = ((x % 128 : Nat) : Int) := by
  have : ∀ n : Fin 256, Go.bits .andNot .u8 (n.val : Int) 128 = ((n.val % 128 : Nat) : Int) := by decide +kernel
  exact this ⟨x, h⟩
theorem or_u64 (x c : Int) (h0 : 0 ≤ x) (h1 : x < 2 ^ 56) (c0 : 0 ≤ c) (c1 : c < 256) : Go.bits .or .u64 (IntKind.u64.wrap (x * 256)) c = x * 256 + c := by
  have e : IntKind.u64.wrap (x * 256) = x * 256 := by rw [IntKind.wrap_u64]; omega
  rw [e]
  exact Go.bits_join .u64 64 (by decide) (fun n a b => by rw [IntKind.wrap_u64]; omega) 8 (x * 256) c (by omega) (by omega) (by omega) c0 (by omega) (by omega)
theorem m_val (s : ByteArray) (h : UInt8) (t : List UInt8) (hs : s.data.toList = h :: t) (k : Nat) (hk : k ≤ 8) (ht : k ≤ t.length) : wire_GetNum.m s k = (val (t.take k) : Int) := by
  induction k with
  | zero => simp [wire_GetNum.m, val]
  | succ k ih =>
    have ih := ih (by omega) (by omega)
    have hl : val (t.take k) < 256 ^ k := by
      have := val_lt (t.take k)
      rwa [List.length_take, Nat.min_eq_left (by omega)] at this
    have hl2 : val (t.take k) < 256 ^ 7 := Nat.lt_of_lt_of_le hl (Nat.pow_le_pow_right (by decide) (by omega))
    have hb : bt s ((k : Int) + 1) = ((t[k]'(by omega)).toNat : Int) := by
      have := bt_list s (k + 1) (by rw [hs]; simp; omega)
      rw [show ((k : Int) + 1) = ((k + 1 : Nat) : Int) from rfl, this]
      congr 1
      simp only [hs]
      rfl
    have hc := (t[k]'(by omega)).toNat_lt
    unfold wire_GetNum.m
    rw [ih, hb, or_u64 _ _ (by omega) (by omega) (by omega) (by omega), List.take_succ_eq_append_getElem (by omega), val_snoc]
    omega
theorem get_eq (s : ByteArray) : wire_GetNum.f s = some ((getL s.data.toList).1, B (getL s.data.toList).2.1, (getL s.data.toList).2.2) := by
  unfold wire_GetNum.f
  cases hs : s.data.toList with
  | nil =>
    have : s.size = 0 := by rw [← data_length, hs]; rfl
    rw [if_pos this]; rfl
  | cons h t =>
    have hsz : s.size = t.length + 1 := by rw [← data_length, hs]; rfl
    have hh := h.toNat_lt
    have hb : bt s 0 = (h.toNat : Int) := by
      have := bt_list s 0 (by rw [hs]; simp)
      rw [show ((0 : Nat) : Int) = 0 from rfl] at this
      rw [this]; simp only [hs]; rfl
    have hb1 : ∀ d u, t = d :: u → bt s 1 = (d.toNat : Int) := by
      intro d u e
      have := bt_list s 1 (by rw [hs, e]; simp)
      rw [show ((1 : Nat) : Int) = 1 from rfl] at this
      rw [this]; simp only [hs, e]; rfl
    rw [if_neg (by omega), hb, andNot_eq _ hh, Int.toNat_natCast, getL]
    by_cases c1 : 8 < h.toNat % 128
    · rw [if_pos (by omega), if_pos c1]; rfl
    rw [if_neg (by omega), if_neg c1]
    by_cases c2 : t.length < h.toNat % 128
    · rw [if_pos (by omega), if_pos c2]; rfl
    rw [if_neg (by omega), if_neg c2]
    by_cases c3 : 0 < h.toNat % 128 ∧ t.head? = some 0
    · rw [if_pos, if_pos c3]
      · rfl
      · refine ⟨by omega, ?_⟩
        cases t with
        | nil => simp at c3
        | cons d u => rw [hb1 d u rfl]; simp at c3; rw [c3.2]; rfl
    rw [if_neg, if_neg c3]
    rotate_left
    · rintro ⟨h1, h2⟩
      refine c3 ⟨by omega, ?_⟩
      cases t with
      | nil => simp at c2; omega
      | cons d u =>
        rw [hb1 d u rfl] at h2
        have : d.toNat = 0 := by omega
        rw [List.head?_cons]
        congr 1
        exact UInt8.toNat_inj.mp (by simpa using this)
    rw [m_val s h t hs _ (by omega) (by omega)]
    have hlen : (t.take (h.toNat % 128)).length = h.toNat % 128 := by rw [List.length_take]; omega
    have hv := val_lt (t.take (h.toNat % 128))
    rw [hlen] at hv
    have hv8 : val (t.take (h.toNat % 128)) < 256 ^ 8 := Nat.lt_of_lt_of_le hv (Nat.pow_le_pow_right (by decide) (by omega))
    have hext : s.extract (h.toNat % 128 + 1) s.size = B (t.drop (h.toNat % 128)) := by
      apply ByteArray.ext
      apply Array.ext'
      rw [B_toList, ByteArray.data_extract, Array.toList_extract, hs, List.extract_eq_take_drop]
      rw [List.drop_succ_cons, List.take_of_length_le]
      rw [List.length_drop]; omega
    generalize hvv : val (t.take (h.toNat % 128)) = v at hv8 ⊢
    unfold wire_signed.f
    by_cases c4 : 128 ≤ h.toNat
    · have hd : ((decide ((128 : Int) ≤ (h.toNat : Int))) = true) = True := by simp; omega
      simp only [hd, if_true]
      rw [if_pos c4]
      by_cases c0 : 0 < v
      · rw [if_pos (by omega)]
        simp only [if_true, Option.bind_some]
        by_cases c5 : v ≤ 9223372036854775808
        · rw [if_pos (by rw [decide_eq_true_iff]; omega), if_pos ⟨c0, c5⟩, hext]
          simp only [Option.some.injEq, Prod.mk.injEq, and_true]
          rw [IntKind.wrap_u64]; unfold wrap64; omega
        · rw [if_neg (by rw [decide_eq_true_iff]; omega), if_neg (fun h => c5 h.2)]; rfl
      · rw [if_neg (by omega)]
        simp only [if_true, Option.bind_some]
        rw [if_neg (by simp), if_neg (fun h => c0 h.1)]; rfl
    · have hd : ((decide ((128 : Int) ≤ (h.toNat : Int))) = true) = False := by simp; omega
      rw [if_neg (by rw [hd]; exact id), Option.bind_some]
      rw [if_neg c4]
      by_cases c5 : v < 9223372036854775808
      · rw [if_pos (by rw [decide_eq_true_iff]; omega), if_pos c5, hext]
        simp only [Option.some.injEq, Prod.mk.injEq, and_true]
        unfold wrap64; omega
      · rw [if_neg (by rw [decide_eq_true_iff]; omega), if_neg c5]; rfl
theorem tmod_nat (m : Nat) : Int.tmod (m : Int) 256 = ((m % 256 : Nat) : Int) := by
  rw [Int.tmod_eq_emod_of_nonneg (by omega)]; omega
theorem tdiv_nat (m : Nat) : Int.tdiv (m : Int) 256 = ((m / 256 : Nat) : Int) := by
  rw [Int.tdiv_eq_ediv_of_nonneg (by omega)]; omega
theorem str_one (x : Int) : strOfNums [x] = B [UInt8.ofNat x.toNat] := rfl
theorem ref_num_l0 (n : Int) (k : Nat) : ∀ (m : Nat) (r : List UInt8), (dig m).length < k → (dig m ++ r).length ≤ 8 → m < 2 ^ 64 →
    bellmanref01_Num.l0 k n (B r) (m : Int) = some (B (UInt8.ofNat ((if n < 0 then 128 else 0) + (dig m ++ r).length) :: (dig m ++ r))) := by
  induction k with
  | zero => intro m r h; omega
  | succ k ih =>
    intro m r h1 h2 h3
    unfold bellmanref01_Num.l0
    by_cases h0 : m = 0
    · subst h0
      rw [dig_zero, List.nil_append] at h2 ⊢
      rw [if_neg (by omega)]
      by_cases hn : n < 0
      · rw [if_pos hn, if_pos hn]
        simp only [Option.bind_some, str_one, B_size, B_append, List.cons_append, List.nil_append, List.length_cons, List.length_nil]
        rw [if_pos (by omega), show (((r.length : Int) % 256 + 128) % 256).toNat = 128 + r.length by omega]
      · rw [if_neg hn, if_neg hn]
        simp only [Option.bind_some, str_one, B_size, B_append, List.cons_append, List.nil_append, List.length_cons, List.length_nil]
        rw [if_pos (by omega), show ((r.length : Int) % 256).toNat = 0 + r.length by omega]
    · have e := dig_pos h0
      have hl : (dig m).length = (dig (m / 256)).length + 1 := by rw [e]; simp
      rw [List.length_append] at h2
      rw [if_pos (by omega)]
      simp only [Option.bind_some, str_one, B_size, B_append, List.cons_append, List.nil_append, List.length_cons, List.length_nil]
      rw [if_pos (by omega), tmod_nat, tdiv_nat]
      have e1 : IntKind.u64.wrap ((m / 256 : Nat) : Int) = ((m / 256 : Nat) : Int) := by rw [IntKind.wrap_u64]; omega
      have e2 : UInt8.ofNat (((m % 256 : Nat) : Int) % 256).toNat = UInt8.ofNat (m % 256) := by congr 1; omega
      have e3 : dig (m / 256) ++ UInt8.ofNat (m % 256) :: r = dig m ++ r := by rw [e, List.append_assoc]; rfl
      rw [e1, e2, ih (m / 256) _ (by omega) (by rw [e3, List.length_append]; omega) (by omega), e3]
theorem ref_num9 (n : Int) (hn : Fits n) (k : Nat) (hk : 9 ≤ k) : bellmanref01_Num.f k n = some (B (numL n)) := by
  have h8 := dig_len8 hn
  have hs : bellmanref01_size.f n = some ((n.natAbs : Nat) : Int) := by
    unfold bellmanref01_size.f
    unfold Fits at hn
    by_cases h : n < 0
    · rw [if_pos h]; congr 1; rw [IntKind.wrap_u64, IntKind.wrap_u64]; unfold wrap64; omega
    · rw [if_neg h]; congr 1; rw [IntKind.wrap_u64]; omega
  show (bellmanref01_size.f n).bind _ = _
  rw [hs, Option.bind_some]
  have := ref_num_l0 n k n.natAbs [] (by omega) (by simpa using h8) (by unfold Fits at hn; omega)
  rw [List.append_nil] at this
  exact this
theorem ref_num (n : Int) (hn : Fits n) : Ev (fun k => bellmanref01_Num.f k n) (B (numL n)) := ⟨9, fun k hk => ref_num9 n hn k hk⟩
theorem get_head {n : Int} (hn : Fits n) {h : UInt8} {t r : List UInt8} (e : h :: t = numL n ++ r) : (dig n.natAbs).length = h.toNat % 128 ∧ (n < 0 ↔ 128 ≤ h.toNat) ∧ t.take (h.toNat % 128) = dig n.natAbs ∧ t.drop (h.toNat % 128) = r := by
  have h8 := dig_len8 hn
  unfold numL at e
  rw [List.cons_append] at e
  injection e with e1 e2
  have e3 : h.toNat = (if n < 0 then 128 else 0) + (dig n.natAbs).length := by
    rw [e1, UInt8.toNat_ofNat']; split <;> omega
  have e4 : (dig n.natAbs).length = h.toNat % 128 := by rw [e3]; split <;> omega
  refine ⟨e4, ?_, ?_, ?_⟩
  · rw [e3]; split <;> omega
  · rw [e2, ← e4, List.take_left]
  · rw [e2, ← e4, List.drop_left]
theorem getL_cons7 {h : UInt8} {t : List UInt8} (c1 : ¬ 8 < h.toNat % 128) (c2 : ¬ t.length < h.toNat % 128) (hno : ∀ n r, Fits n → h :: t ≠ numL n ++ r) : getL (h :: t) = (0, [], 7) := by
  rcases getL_inv (h :: t) with ⟨n, r, hn, e, _⟩ | ⟨e, he, hg⟩
  · exact absurd e (hno n r hn)
  · have h7 : e = 7 := by
      have hg2 := hg
      rw [getL, if_neg c1, if_neg c2] at hg2
      repeat' split at hg2
      all_goals (simp only [Prod.mk.injEq] at hg2; omega)
    rw [hg, h7]
theorem take_succ_byte (s : ByteArray) (h : UInt8) (t : List UInt8) (hs : s.data.toList = h :: t) (i : Nat) (hi : i < t.length) : bt s ((i : Int) + 1) = ((t[i]).toNat : Int) := by
  have := bt_list s (i + 1) (by rw [hs]; simp; omega)
  rw [show ((i : Int) + 1) = ((i + 1 : Nat) : Int) from rfl, this]
  congr 1
  simp only [hs]
  rfl
theorem val_step (t : List UInt8) (i : Nat) (hit : i < t.length) (h8 : i ≤ 7) : IntKind.u64.wrap (IntKind.u64.wrap (256 * (val (t.take i) : Int)) + IntKind.u64.wrap (((t[i]).toNat : Nat) : Int)) = (val (t.take (i + 1)) : Int) := by
  have hc := (t[i]).toNat_lt
  have hl2 : val (t.take i) < 256 ^ 7 := by
    have := val_lt (t.take i)
    rw [List.length_take, Nat.min_eq_left (by omega)] at this
    exact Nat.lt_of_lt_of_le this (Nat.pow_le_pow_right (by decide) h8)
  rw [List.take_succ_eq_append_getElem hit, val_snoc, IntKind.wrap_u64, IntKind.wrap_u64, IntKind.wrap_u64]
  generalize val (t.take i) = v at hl2 ⊢
  generalize (t[i]).toNat = c at hc ⊢
  omega
theorem wrap_step (i : Nat) (h : i < 1000) : wrap64 ((i : Int) + 1 + 1) = ((i + 1 : Nat) : Int) + 1 := by unfold wrap64; omega
theorem fits_wrap (x : Int) : Fits (wrap64 x) := by unfold Fits wrap64; omega
theorem neg_wrap (m : Int) (v : Nat) (hm : Fits m) (e1 : m.natAbs = v) (h : m < 0) : m = wrap64 (-(wrap64 (v : Int))) := by
  unfold Fits at hm; unfold wrap64; omega
theorem pos_wrap (m : Int) (v : Nat) (hm : Fits m) (e1 : m.natAbs = v) (h : ¬ m < 0) : m = wrap64 (v : Int) := by
  unfold Fits at hm; unfold wrap64; omega
theorem ref_get_end (s : ByteArray) (h : UInt8) (t : List UInt8) (hs : s.data.toList = h :: t) (c1 : ¬ 8 < h.toNat % 128) (c2 : ¬ t.length < h.toNat % 128) (k : Nat) (hk : 9 ≤ k) :
    bellmanref01_GetNum.l0 (k + 1) s ((h.toNat % 128 : Nat) : Int) (val (t.take (h.toNat % 128)) : Int) (((h.toNat % 128 : Nat) : Int) + 1) = some ((getL (h :: t)).1, B (getL (h :: t)).2.1, (getL (h :: t)).2.2) := by
  have hsz : s.size = t.length + 1 := by rw [← data_length, hs]; rfl
  have hh := h.toNat_lt
  have hb : bt s 0 = (h.toNat : Int) := by
    have := bt_list s 0 (by rw [hs]; simp)
    rw [show ((0 : Nat) : Int) = 0 from rfl] at this
    rw [this]; simp only [hs]; rfl
  have hlen : (t.take (h.toNat % 128)).length = h.toNat % 128 := by rw [List.length_take]; omega
  have hv := val_lt (t.take (h.toNat % 128))
  rw [hlen] at hv
  have hv8 : val (t.take (h.toNat % 128)) < 256 ^ 8 := Nat.lt_of_lt_of_le hv (Nat.pow_le_pow_right (by decide) (by omega))
  have w1 : wrap64 (((h.toNat % 128 : Nat) : Int) + 1) = ((h.toNat % 128 + 1 : Nat) : Int) := by unfold wrap64; omega
  unfold bellmanref01_GetNum.l0
  rw [if_neg (by omega), if_pos (by omega), hb, w1]
  have hext0 : s.extract 0 (((h.toNat % 128 + 1 : Nat) : Int)).toNat = B (h :: t.take (h.toNat % 128)) := by
    apply ByteArray.ext
    apply Array.ext'
    rw [B_toList, ByteArray.data_extract, Array.toList_extract, hs, List.extract_eq_take_drop, Int.toNat_natCast]
    simp
  have hext : s.extract (((h.toNat % 128 + 1 : Nat) : Int)).toNat s.size = B (t.drop (h.toNat % 128)) := by
    apply ByteArray.ext
    apply Array.ext'
    rw [B_toList, ByteArray.data_extract, Array.toList_extract, hs, List.extract_eq_take_drop, Int.toNat_natCast]
    rw [List.drop_succ_cons, List.take_of_length_le]
    rw [List.length_drop]; omega
  rw [hext0, hext]
  -- the number that is tried
  have key : ∀ n : Int, Fits n → (∀ m, Fits m → m.natAbs = val (t.take (h.toNat % 128)) → (m < 0 ↔ 128 ≤ h.toNat) → m = n) →
      ((bellmanref01_Num.f k n).bind fun t111 => (if 0 ≤ ((h.toNat % 128 + 1 : Nat) : Int) then (if ((h.toNat % 128 + 1 : Nat) : Int) ≤ (s.size : Int) then (if t111.toList = (B (h :: t.take (h.toNat % 128))).toList then (some (n, B (t.drop (h.toNat % 128)), 0)) else (some (0, (⟨#[]⟩ : ByteArray), 7))) else (none)) else (none))) = some ((getL (h :: t)).1, B (getL (h :: t)).2.1, (getL (h :: t)).2.2) := by
    intro n hn huniq
    have hN := ref_num9 n hn k (by omega)
    rw [hN, Option.bind_some, if_pos (by omega), if_pos (by omega)]
    by_cases hc : numL n = h :: t.take (h.toNat % 128)
    · rw [if_pos (by rw [hc])]
      have e : h :: t = numL n ++ t.drop (h.toNat % 128) := by rw [hc, List.cons_append, List.take_append_drop]
      have hg : getL (h :: t) = (n, t.drop (h.toNat % 128), 0) := (congrArg getL e).trans (getL_num n hn _)
      rw [hg]
    · rw [if_neg]
      rotate_left
      · intro hc2
        exact hc (B_inj (toList_inj hc2))
      have hg7 : getL (h :: t) = (0, [], 7) := by
        refine getL_cons7 c1 c2 fun m r hm e => hc ?_
        obtain ⟨e1, e2, e3, e4⟩ := get_head hm e
        have hmn : m = n := huniq m hm (by rw [e3, val_dig]) e2
        rw [← hmn]
        have h2 : numL m ++ t.drop (h.toNat % 128) = (h :: t.take (h.toNat % 128)) ++ t.drop (h.toNat % 128) := by
          rw [List.cons_append, List.take_append_drop, e4]; exact e.symm
        exact List.append_cancel_right h2
      rw [hg7]; rfl
  generalize hvv : val (t.take (h.toNat % 128)) = v at hv8 key ⊢
  clear hv hv8 hlen
  by_cases c4 : 128 ≤ h.toNat
  · rw [if_pos (by omega)]
    exact key _ (fits_wrap _) (fun m hm e1 e2 => neg_wrap m v hm e1 (e2.mpr c4))
  · rw [if_neg (by omega)]
    exact key _ (fits_wrap _) (fun m hm e1 e2 => pos_wrap m v hm e1 (fun h => c4 (e2.mp h)))
/-- What the definition's loop comes to. -/
theorem ref_get_l0 (s : ByteArray) (h : UInt8) (t : List UInt8) (hs : s.data.toList = h :: t) (c1 : ¬ 8 < h.toNat % 128) (c2 : ¬ t.length < h.toNat % 128) (d : Nat) :
    ∀ (k i : Nat), i + d = h.toNat % 128 → d + 12 ≤ k → bellmanref01_GetNum.l0 k s ((h.toNat % 128 : Nat) : Int) (val (t.take i) : Int) ((i : Int) + 1) = some ((getL (h :: t)).1, B (getL (h :: t)).2.1, (getL (h :: t)).2.2) := by
  have hsz : s.size = t.length + 1 := by rw [← data_length, hs]; rfl
  have hh := h.toNat_lt
  have hb : bt s 0 = (h.toNat : Int) := by
    have := bt_list s 0 (by rw [hs]; simp)
    rw [show ((0 : Nat) : Int) = 0 from rfl] at this
    rw [this]; simp only [hs]; rfl
  induction d with
  | zero =>
    intro k i hi hk
    obtain ⟨k, rfl⟩ : ∃ m, k = m + 1 := ⟨k - 1, by omega⟩
    obtain rfl : i = h.toNat % 128 := by omega
    exact ref_get_end s h t hs c1 c2 k (by omega)
  | succ d ih =>
    intro k i hi hk
    obtain ⟨k, rfl⟩ : ∃ m, k = m + 1 := ⟨k - 1, by omega⟩
    have hit : i < t.length := by omega
    have hb2 := take_succ_byte s h t hs i hit
    have h7 : i ≤ 7 := by omega
    have hx1 : ((i : Int) + 1) ≤ ((h.toNat % 128 : Nat) : Int) := by omega
    have hx2 : 0 ≤ ((i : Int) + 1) := by omega
    have hx3 : ((i : Int) + 1) < (s.size : Int) := by omega
    have hk1 : d + 12 ≤ k := by omega
    have hi1 : i + 1 + d = h.toNat % 128 := by omega
    have w1 := wrap_step i (by omega)
    have w2 := val_step t i hit h7
    unfold bellmanref01_GetNum.l0
    rw [if_pos hx1, if_pos hx2, if_pos hx3, hb2]
    rw [w1, w2]
    exact ih k (i + 1) hi1 hk1
theorem ref_get (s : ByteArray) (k : Nat) (hk : 20 ≤ k) : bellmanref01_GetNum.f k s = some ((getL s.data.toList).1, B (getL s.data.toList).2.1, (getL s.data.toList).2.2) := by
  unfold bellmanref01_GetNum.f
  cases hs : s.data.toList with
  | nil =>
    have : s.size = 0 := by rw [← data_length, hs]; rfl
    rw [if_pos (by simpa using wire_GetNum.empty s this)]; rfl
  | cons h t =>
    have hsz : s.size = t.length + 1 := by rw [← data_length, hs]; rfl
    have hh := h.toNat_lt
    have hb : bt s 0 = (h.toNat : Int) := by
      have := bt_list s 0 (by rw [hs]; simp)
      rw [show ((0 : Nat) : Int) = 0 from rfl] at this
      rw [this]; simp only [hs]; rfl
    have hm : wrap64 (Int.tmod (h.toNat : Int) 128) = ((h.toNat % 128 : Nat) : Int) := by
      rw [Int.tmod_eq_emod_of_nonneg (by omega)]; unfold wrap64; omega
    rw [if_neg (by have := wire_GetNum.full s (by omega); simpa using this), if_pos (by omega), hb, hm]
    by_cases c1 : 8 < h.toNat % 128
    · rw [if_pos (by omega), getL, if_pos c1]; rfl
    rw [if_neg (by omega)]
    by_cases c2 : t.length < h.toNat % 128
    · rw [if_pos (by omega), getL, if_neg c1, if_pos c2]; rfl
    rw [if_neg (by omega)]
    exact ref_get_l0 s h t hs c1 c2 (h.toNat % 128) k 0 (by omega) (by omega)
theorem B_nil : (⟨#[]⟩ : ByteArray) = B [] := rfl
theorem B_ext (s : ByteArray) (a b : Nat) : s.extract a b = B ((s.data.toList.drop a).take (b - a)) := by
  apply ByteArray.ext
  apply Array.ext'
  rw [B_toList, ByteArray.data_extract, Array.toList_extract, List.extract_eq_take_drop]
theorem data_size (s : ByteArray) : s.size = s.data.toList.length := (data_length s).symm
theorem text_eq (t : List UInt8) : wire_Text.f (B t) = if t.length ≤ 4096 then some (B (textL t), 0) else some (B [], 12) := by
  unfold wire_Text.f
  rw [B_size]
  by_cases h : t.length ≤ 4096
  · rw [if_neg (by omega), if_pos h, num_eq _ ⟨by omega, by omega⟩, Option.bind_some, B_size]
    have h8 := dig_len8 (n := (t.length : Int)) ⟨by omega, by omega⟩
    rw [numL_length, if_pos (by omega), B_append]
    rfl
  · rw [if_pos (by omega), if_neg h]; rfl
theorem ref_text (t : List UInt8) (k : Nat) (hk : 9 ≤ k) : bellmanref01_Text.f k (B t) = if t.length ≤ 4096 then some (B (textL t), 0) else some (B [], 12) := by
  unfold bellmanref01_Text.f
  rw [B_size]
  by_cases h : t.length ≤ 4096
  · rw [if_neg (by omega), if_pos h, ref_num9 _ ⟨by omega, by omega⟩ k hk, Option.bind_some, B_size]
    have h8 := dig_len8 (n := (t.length : Int)) ⟨by omega, by omega⟩
    rw [numL_length, if_pos (by omega), B_append]
    rfl
  · rw [if_pos (by omega), if_neg h]; rfl
theorem getL_err (l : List UInt8) : (getL l).2.2 = 0 ∨ ((getL l).2.2 = 5 ∨ (getL l).2.2 = 7) ∧ (getL l).1 = 0 ∧ (getL l).2.1 = [] := by
  rcases getL_inv l with ⟨n, r, _, _, h⟩ | ⟨e, he, h⟩
  · left; rw [h]
  · right; rw [h]; exact ⟨he, rfl, rfl⟩
theorem get_text_eq (s : ByteArray) (k : Nat) (hk : 1 ≤ k) : wire_GetText.f k s = some (B (getTL s.data.toList).1, B (getTL s.data.toList).2.1, (getTL s.data.toList).2.2) := by
  obtain ⟨k, rfl⟩ : ∃ m, k = m + 1 := ⟨k - 1, by omega⟩
  have hg := get_eq s
  have he := getL_err s.data.toList
  unfold wire_GetText.f wire_Reader_Text.f wire_Reader_Many.f wire_Reader_Num.f getTL
  rw [if_pos rfl, hg]
  generalize getL s.data.toList = q at he ⊢
  obtain ⟨n, r, e⟩ := q
  simp only [Option.bind_some] at he ⊢
  rcases he with rfl | ⟨he, rfl, rfl⟩
  · rw [if_neg (show ¬ ((0 : Int) ≠ 0) by omega)]
    by_cases c1 : n < 0
    · rw [if_pos c1, if_pos c1]; simp [wire_Reader_Text.j0, wire_Reader_rest.f, B_nil]
    rw [if_neg c1, if_neg c1]
    by_cases c2 : 4096 < n
    · rw [if_pos (show n > 4096 from c2), if_pos c2]; simp [wire_Reader_Text.j0, wire_Reader_rest.f, B_nil]
    rw [if_neg (show ¬ n > 4096 from c2), if_neg c2, if_pos rfl]
    simp only [Option.bind_some, B_size]
    rw [if_pos True.intro]
    have hj : ∀ b, wire_Reader_Text.j0 (k + 1) n b (B r) 0 = if b = true then some ((⟨#[]⟩ : ByteArray), B r, 5) else (if 0 ≤ n then (if n ≤ ((B r).size : Int) then (some ((B r).extract 0 (n : Int).toNat, (B r).extract (n : Int).toNat (B r).size, 0)) else (none)) else (none)) := fun b => rfl
    rw [hj]
    by_cases c3 : (r.length : Int) < n
    · rw [if_pos (decide_eq_true c3), if_pos c3]; simp [wire_Reader_rest.f, B_nil]
    · rw [if_neg (by simpa using c3), if_neg c3, if_pos (by omega), if_pos (by rw [B_size]; omega)]
      simp only [Option.bind_some, wire_Reader_rest.f, if_true]
      rw [B_ext, B_ext, B_toList, B_size, Nat.sub_zero, List.drop_zero, List.take_of_length_le (l := r.drop n.toNat)]
      rw [List.length_drop]; omega
  · have h0 : ¬ e = 0 := by omega
    rw [if_neg (by omega), if_neg (by omega), if_neg h0, if_pos (show e ≠ 0 from h0)]
    simp only [Option.bind_some]
    rw [if_neg h0]
    simp [wire_Reader_Text.j0, wire_Reader_rest.f, B_nil, h0]
theorem ref_get_text (s : ByteArray) (k : Nat) (hk : 20 ≤ k) : bellmanref01_GetText.f k s = some (B (getTL s.data.toList).1, B (getTL s.data.toList).2.1, (getTL s.data.toList).2.2) := by
  have hg := ref_get s k hk
  have he := getL_err s.data.toList
  unfold bellmanref01_GetText.f bellmanref01_many.f getTL
  rw [hg]
  generalize getL s.data.toList = q at he ⊢
  obtain ⟨n, r, e⟩ := q
  simp only [Option.bind_some] at he ⊢
  rcases he with rfl | ⟨he, rfl, rfl⟩
  · rw [if_neg (show ¬ ((0 : Int) ≠ 0) by omega), if_pos rfl]
    by_cases c1 : n < 0
    · rw [if_pos c1, if_pos c1]; simp [B_nil]
    rw [if_neg c1, if_neg c1]
    by_cases c2 : 4096 < n
    · rw [if_pos (show n > 4096 from c2), if_pos c2]; simp [B_nil]
    rw [if_neg (show ¬ n > 4096 from c2), if_neg c2]
    simp only [Option.bind_some, B_size]
    rw [if_pos True.intro]
    by_cases c3 : (r.length : Int) < n
    · rw [if_pos c3, if_pos c3]; simp [B_nil]
    · rw [if_neg c3, if_neg c3, if_pos (by omega), if_pos (by omega)]
      rw [B_ext, B_ext, B_toList, Nat.sub_zero, List.drop_zero, List.take_of_length_le (l := r.drop n.toNat)]
      rw [List.length_drop]; omega
  · have h0 : ¬ e = 0 := by omega
    rw [if_neg h0, if_pos (show e ≠ 0 from h0)]
    simp only [Option.bind_some]
    rw [if_neg h0]
    rfl
end Go.Proofs.Ytgcilfpoblijnaa.XL
