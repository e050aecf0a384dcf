-- by a program of this session
import Derived.Test.YtgcilfpoblijnaaQWireG
import Derived.Test.YtgcilfpoblijnaaXK6
import Derived.Test.YtgcilfpoblijnaaXK7
import Derived.Test.YtgcilfpoblijnaaXK8
set_option linter.unusedVariables false
set_option linter.unusedSimpArgs false
/-! The definition of numbers and texts answers as the plain theory says. -/
namespace Go.Proofs.Ytgcilfpoblijnaa.XK
open Go.RowKit Go.Proofs.YtgcilfpoblijnaaW.PrintWords Go.Proofs.YtgcilfpoblijnaaW.PrintLast Go.Proofs.Ytgcilfpoblijnaa.Wire
set_option linter.unusedVariables false
theorem tmod_nat (m : Nat) : Int.tmod (m : Int) 256 = ((m % 256 : Nat) : Int) := by
  rw [Int.tmod_eq_emod_of_nonneg (by omega)]; omega
theorem tdiv_nat (m : Nat) : Int.tdiv (m : Int) 256 = ((m / 256 : Nat) : Int) := by
  rw [Int.tdiv_eq_ediv_of_nonneg (by omega)]; omega
theorem str_one (x : Int) : strOfNums [x] = B [UInt8.ofNat x.toNat] := rfl
theorem ref_num_l0 (n : Int) (k : Nat) : ∀ (m : Nat) (r : List UInt8), (dig m).length < k → (dig m ++ r).length ≤ 8 → m < 2 ^ 64 →
    bellmanref01_Num.l0 k n (B r) (m : Int) = some (B (UInt8.ofNat ((if n < 0 then 128 else 0) + (dig m ++ r).length) :: (dig m ++ r))) := by
  induction k with
  | zero => intro m r h; omega
  | succ k ih =>
    intro m r h1 h2 h3
    unfold bellmanref01_Num.l0
    by_cases h0 : m = 0
    · subst h0
      rw [dig_zero, List.nil_append] at h2 ⊢
      rw [if_neg (by omega)]
      by_cases hn : n < 0
      · rw [if_pos hn, if_pos hn]
        simp only [Option.bind_some, str_one, B_size, B_append, List.cons_append, List.nil_append, List.length_cons, List.length_nil]
        rw [if_pos (by omega), show (((r.length : Int) % 256 + 128) % 256).toNat = 128 + r.length by omega]
      · rw [if_neg hn, if_neg hn]
        simp only [Option.bind_some, str_one, B_size, B_append, List.cons_append, List.nil_append, List.length_cons, List.length_nil]
        rw [if_pos (by omega), show ((r.length : Int) % 256).toNat = 0 + r.length by omega]
    · have e := dig_pos h0
      have hl : (dig m).length = (dig (m / 256)).length + 1 := by rw [e]; simp
      rw [List.length_append] at h2
      rw [if_pos (by omega)]
      simp only [Option.bind_some, str_one, B_size, B_append, List.cons_append, List.nil_append, List.length_cons, List.length_nil]
      rw [if_pos (by omega), tmod_nat, tdiv_nat]
      have e1 : IntKind.u64.wrap ((m / 256 : Nat) : Int) = ((m / 256 : Nat) : Int) := by rw [IntKind.wrap_u64]; omega
      have e2 : UInt8.ofNat (((m % 256 : Nat) : Int) % 256).toNat = UInt8.ofNat (m % 256) := by congr 1; omega
      have e3 : dig (m / 256) ++ UInt8.ofNat (m % 256) :: r = dig m ++ r := by rw [e, List.append_assoc]; rfl
      rw [e1, e2, ih (m / 256) _ (by omega) (by rw [e3, List.length_append]; omega) (by omega), e3]
theorem ref_num9 (n : Int) (hn : Fits n) (k : Nat) (hk : 9 ≤ k) : bellmanref01_Num.f k n = some (B (numL n)) := by
  have h8 := dig_len8 hn
  have hs : bellmanref01_size.f n = some ((n.natAbs : Nat) : Int) := by
    unfold bellmanref01_size.f
    unfold Fits at hn
    by_cases h : n < 0
    · rw [if_pos h]; congr 1; rw [IntKind.wrap_u64, IntKind.wrap_u64]; unfold wrap64; omega
    · rw [if_neg h]; congr 1; rw [IntKind.wrap_u64]; omega
  show (bellmanref01_size.f n).bind _ = _
  rw [hs, Option.bind_some]
  have := ref_num_l0 n k n.natAbs [] (by omega) (by simpa using h8) (by unfold Fits at hn; omega)
  rw [List.append_nil] at this
  exact this
theorem ref_num (n : Int) (hn : Fits n) : Ev (fun k => bellmanref01_Num.f k n) (B (numL n)) := ⟨9, fun k hk => ref_num9 n hn k hk⟩
theorem get_head {n : Int} (hn : Fits n) {h : UInt8} {t r : List UInt8} (e : h :: t = numL n ++ r) : (dig n.natAbs).length = h.toNat % 128 ∧ (n < 0 ↔ 128 ≤ h.toNat) ∧ t.take (h.toNat % 128) = dig n.natAbs ∧ t.drop (h.toNat % 128) = r := by
  have h8 := dig_len8 hn
  unfold numL at e
  rw [List.cons_append] at e
  injection e with e1 e2
  have e3 : h.toNat = (if n < 0 then 128 else 0) + (dig n.natAbs).length := by
    rw [e1, UInt8.toNat_ofNat']; split <;> omega
  have e4 : (dig n.natAbs).length = h.toNat % 128 := by rw [e3]; split <;> omega
  refine ⟨e4, ?_, ?_, ?_⟩
  · rw [e3]; split <;> omega
  · rw [e2, ← e4, List.take_left]
  · rw [e2, ← e4, List.drop_left]
theorem getL_cons7 {h : UInt8} {t : List UInt8} (c1 : ¬ 8 < h.toNat % 128) (c2 : ¬ t.length < h.toNat % 128) (hno : ∀ n r, Fits n → h :: t ≠ numL n ++ r) : getL (h :: t) = (0, [], 7) := by
  rcases getL_inv (h :: t) with ⟨n, r, hn, e, _⟩ | ⟨e, he, hg⟩
  · exact absurd e (hno n r hn)
  · have h7 : e = 7 := by
      have hg2 := hg
      rw [getL, if_neg c1, if_neg c2] at hg2
      repeat' split at hg2
      all_goals (simp only [Prod.mk.injEq] at hg2; omega)
    rw [hg, h7]
theorem take_succ_byte (s : ByteArray) (h : UInt8) (t : List UInt8) (hs : s.data.toList = h :: t) (i : Nat) (hi : i < t.length) : bt s ((i : Int) + 1) = ((t[i]).toNat : Int) := by
  have := bt_list s (i + 1) (by rw [hs]; simp; omega)
  rw [show ((i : Int) + 1) = ((i + 1 : Nat) : Int) from rfl, this]
  congr 1
  simp only [hs]
  rfl
theorem val_step (t : List UInt8) (i : Nat) (hit : i < t.length) (h8 : i ≤ 7) : IntKind.u64.wrap (IntKind.u64.wrap (256 * (val (t.take i) : Int)) + IntKind.u64.wrap (((t[i]).toNat : Nat) : Int)) = (val (t.take (i + 1)) : Int) := by
  have hc := (t[i]).toNat_lt
  have hl2 : val (t.take i) < 256 ^ 7 := by
    have := val_lt (t.take i)
    rw [List.length_take, Nat.min_eq_left (by omega)] at this
    exact Nat.lt_of_lt_of_le this (Nat.pow_le_pow_right (by decide) h8)
  rw [List.take_succ_eq_append_getElem hit, val_snoc, IntKind.wrap_u64, IntKind.wrap_u64, IntKind.wrap_u64]
  generalize val (t.take i) = v at hl2 ⊢
  generalize (t[i]).toNat = c at hc ⊢
  omega
theorem wrap_step (i : Nat) (h : i < 1000) : wrap64 ((i : Int) + 1 + 1) = ((i + 1 : Nat) : Int) + 1 := by unfold wrap64; omega
theorem fits_wrap (x : Int) : Fits (wrap64 x) := by unfold Fits wrap64; omega
theorem neg_wrap (m : Int) (v : Nat) (hm : Fits m) (e1 : m.natAbs = v) (h : m < 0) : m = wrap64 (-(wrap64 (v : Int))) := by
  unfold Fits at hm; unfold wrap64; omega
theorem pos_wrap (m : Int) (v : Nat) (hm : Fits m) (e1 : m.natAbs = v) (h : ¬ m < 0) : m = wrap64 (v : Int) := by
  unfold Fits at hm; unfold wrap64; omega
theorem ref_get_end (s : ByteArray) (h : UInt8) (t : List UInt8) (hs : s.data.toList = h :: t) (c1 : ¬ 8 < h.toNat % 128) (c2 : ¬ t.length < h.toNat % 128) (k : Nat) (hk : 9 ≤ k) :
    bellmanref01_GetNum.l0 (k + 1) s ((h.toNat % 128 : Nat) : Int) (val (t.take (h.toNat % 128)) : Int) (((h.toNat % 128 : Nat) : Int) + 1) = some ((getL (h :: t)).1, B (getL (h :: t)).2.1, (getL (h :: t)).2.2) := by
  have hsz : s.size = t.length + 1 := by rw [← data_length, hs]; rfl
  have hh := h.toNat_lt
  have hb : bt s 0 = (h.toNat : Int) := by
    have := bt_list s 0 (by rw [hs]; simp)
    rw [show ((0 : Nat) : Int) = 0 from rfl] at this
    rw [this]; simp only [hs]; rfl
  have hlen : (t.take (h.toNat % 128)).length = h.toNat % 128 := by rw [List.length_take]; omega
  have hv := val_lt (t.take (h.toNat % 128))
  rw [hlen] at hv
  have hv8 : val (t.take (h.toNat % 128)) < 256 ^ 8 := Nat.lt_of_lt_of_le hv (Nat.pow_le_pow_right (by decide) (by omega))
  have w1 : wrap64 (((h.toNat % 128 : Nat) : Int) + 1) = ((h.toNat % 128 + 1 : Nat) : Int) := by unfold wrap64; omega
  unfold bellmanref01_GetNum.l0
  rw [if_neg (by omega), if_pos (by omega), hb, w1]
  have hext0 : s.extract 0 (((h.toNat % 128 + 1 : Nat) : Int)).toNat = B (h :: t.take (h.toNat % 128)) := by
    apply ByteArray.ext
    apply Array.ext'
    rw [B_toList, ByteArray.data_extract, Array.toList_extract, hs, List.extract_eq_take_drop, Int.toNat_natCast]
    simp
  have hext : s.extract (((h.toNat % 128 + 1 : Nat) : Int)).toNat s.size = B (t.drop (h.toNat % 128)) := by
    apply ByteArray.ext
    apply Array.ext'
    rw [B_toList, ByteArray.data_extract, Array.toList_extract, hs, List.extract_eq_take_drop, Int.toNat_natCast]
    rw [List.drop_succ_cons, List.take_of_length_le]
    rw [List.length_drop]; omega
  rw [hext0, hext]
  -- the number that is tried
  have key : ∀ n : Int, Fits n → (∀ m, Fits m → m.natAbs = val (t.take (h.toNat % 128)) → (m < 0 ↔ 128 ≤ h.toNat) → m = n) →
      ((bellmanref01_Num.f k n).bind fun t111 => (if 0 ≤ ((h.toNat % 128 + 1 : Nat) : Int) then (if ((h.toNat % 128 + 1 : Nat) : Int) ≤ (s.size : Int) then (if t111.toList = (B (h :: t.take (h.toNat % 128))).toList then (some (n, B (t.drop (h.toNat % 128)), 0)) else (some (0, (⟨#[]⟩ : ByteArray), 7))) else (none)) else (none))) = some ((getL (h :: t)).1, B (getL (h :: t)).2.1, (getL (h :: t)).2.2) := by
    intro n hn huniq
    have hN := ref_num9 n hn k (by omega)
    rw [hN, Option.bind_some, if_pos (by omega), if_pos (by omega)]
    by_cases hc : numL n = h :: t.take (h.toNat % 128)
    · rw [if_pos (by rw [hc])]
      have e : h :: t = numL n ++ t.drop (h.toNat % 128) := by rw [hc, List.cons_append, List.take_append_drop]
      have hg : getL (h :: t) = (n, t.drop (h.toNat % 128), 0) := (congrArg getL e).trans (getL_num n hn _)
      rw [hg]
    · rw [if_neg]
      rotate_left
      · intro hc2
        exact hc (B_inj (toList_inj hc2))
      have hg7 : getL (h :: t) = (0, [], 7) := by
        refine getL_cons7 c1 c2 fun m r hm e => hc ?_
        obtain ⟨e1, e2, e3, e4⟩ := get_head hm e
        have hmn : m = n := huniq m hm (by rw [e3, val_dig]) e2
        rw [← hmn]
        have h2 : numL m ++ t.drop (h.toNat % 128) = (h :: t.take (h.toNat % 128)) ++ t.drop (h.toNat % 128) := by
          rw [List.cons_append, List.take_append_drop, e4]; exact e.symm
        exact List.append_cancel_right h2
      rw [hg7]; rfl
  generalize hvv : val (t.take (h.toNat % 128)) = v at hv8 key ⊢
  clear hv hv8 hlen
  by_cases c4 : 128 ≤ h.toNat
  · rw [if_pos (by omega)]
    exact key _ (fits_wrap _) (fun m hm e1 e2 => neg_wrap m v hm e1 (e2.mpr c4))
  · rw [if_neg (by omega)]
    exact key _ (fits_wrap _) (fun m hm e1 e2 => pos_wrap m v hm e1 (fun h => c4 (e2.mp h)))
/-- What the definition's loop comes to. -/
theorem ref_get_l0 (s : ByteArray) (h : UInt8) (t : List UInt8) (hs : s.data.toList = h :: t) (c1 : ¬ 8 < h.toNat % 128) (c2 : ¬ t.length < h.toNat % 128) (d : Nat) :
    ∀ (k i : Nat), i + d = h.toNat % 128 → d + 12 ≤ k → bellmanref01_GetNum.l0 k s ((h.toNat % 128 : Nat) : Int) (val (t.take i) : Int) ((i : Int) + 1) = some ((getL (h :: t)).1, B (getL (h :: t)).2.1, (getL (h :: t)).2.2) := by
  have hsz : s.size = t.length + 1 := by rw [← data_length, hs]; rfl
  have hh := h.toNat_lt
  have hb : bt s 0 = (h.toNat : Int) := by
    have := bt_list s 0 (by rw [hs]; simp)
    rw [show ((0 : Nat) : Int) = 0 from rfl] at this
    rw [this]; simp only [hs]; rfl
  induction d with
  | zero =>
    intro k i hi hk
    obtain ⟨k, rfl⟩ : ∃ m, k = m + 1 := ⟨k - 1, by omega⟩
    obtain rfl : i = h.toNat % 128 := by omega
    exact ref_get_end s h t hs c1 c2 k (by omega)
  | succ d ih =>
    intro k i hi hk
    obtain ⟨k, rfl⟩ : ∃ m, k = m + 1 := ⟨k - 1, by omega⟩
    have hit : i < t.length := by omega
    have hb2 := take_succ_byte s h t hs i hit
    have h7 : i ≤ 7 := by omega
    have hx1 : ((i : Int) + 1) ≤ ((h.toNat % 128 : Nat) : Int) := by omega
    have hx2 : 0 ≤ ((i : Int) + 1) := by omega
    have hx3 : ((i : Int) + 1) < (s.size : Int) := by omega
    have hk1 : d + 12 ≤ k := by omega
    have hi1 : i + 1 + d = h.toNat % 128 := by omega
    have w1 := wrap_step i (by omega)
    have w2 := val_step t i hit h7
    unfold bellmanref01_GetNum.l0
    rw [if_pos hx1, if_pos hx2, if_pos hx3, hb2]
    rw [w1, w2]
    exact ih k (i + 1) hi1 hk1
theorem ref_get (s : ByteArray) (k : Nat) (hk : 20 ≤ k) : bellmanref01_GetNum.f k s = some ((getL s.data.toList).1, B (getL s.data.toList).2.1, (getL s.data.toList).2.2) := by
  unfold bellmanref01_GetNum.f
  cases hs : s.data.toList with
  | nil =>
    have : s.size = 0 := by rw [← data_length, hs]; rfl
    rw [if_pos (by simpa using wire_GetNum.empty s this)]; rfl
  | cons h t =>
    have hsz : s.size = t.length + 1 := by rw [← data_length, hs]; rfl
    have hh := h.toNat_lt
    have hb : bt s 0 = (h.toNat : Int) := by
      have := bt_list s 0 (by rw [hs]; simp)
      rw [show ((0 : Nat) : Int) = 0 from rfl] at this
      rw [this]; simp only [hs]; rfl
    have hm : wrap64 (Int.tmod (h.toNat : Int) 128) = ((h.toNat % 128 : Nat) : Int) := by
      rw [Int.tmod_eq_emod_of_nonneg (by omega)]; unfold wrap64; omega
    rw [if_neg (by have := wire_GetNum.full s (by omega); simpa using this), if_pos (by omega), hb, hm]
    by_cases c1 : 8 < h.toNat % 128
    · rw [if_pos (by omega), getL, if_pos c1]; rfl
    rw [if_neg (by omega)]
    by_cases c2 : t.length < h.toNat % 128
    · rw [if_pos (by omega), getL, if_neg c1, if_pos c2]; rfl
    rw [if_neg (by omega)]
    exact ref_get_l0 s h t hs c1 c2 (h.toNat % 128) k 0 (by omega) (by omega)
theorem ref_text (t : List UInt8) (k : Nat) (hk : 9 ≤ k) : bellmanref01_Text.f k (B t) = if t.length ≤ 4096 then some (B (textL t), 0) else some (B [], 12) := by
  unfold bellmanref01_Text.f
  rw [B_size]
  by_cases h : t.length ≤ 4096
  · rw [if_neg (by omega), if_pos h, ref_num9 _ ⟨by omega, by omega⟩ k hk, Option.bind_some, B_size]
    have h8 := dig_len8 (n := (t.length : Int)) ⟨by omega, by omega⟩
    rw [numL_length, if_pos (by omega), B_append]
    rfl
  · rw [if_pos (by omega), if_neg h]; rfl
theorem ref_get_text (s : ByteArray) (k : Nat) (hk : 20 ≤ k) : bellmanref01_GetText.f k s = some (B (getTL s.data.toList).1, B (getTL s.data.toList).2.1, (getTL s.data.toList).2.2) := by
  have hg := ref_get s k hk
  have he := getL_err s.data.toList
  unfold bellmanref01_GetText.f bellmanref01_many.f getTL
  rw [hg]
  generalize getL s.data.toList = q at he ⊢
  obtain ⟨n, r, e⟩ := q
  simp only [Option.bind_some] at he ⊢
  rcases he with rfl | ⟨he, rfl, rfl⟩
  · rw [if_neg (show ¬ ((0 : Int) ≠ 0) by omega), if_pos rfl]
    by_cases c1 : n < 0
    · rw [if_pos c1, if_pos c1]; simp [B_nil]
    rw [if_neg c1, if_neg c1]
    by_cases c2 : 4096 < n
    · rw [if_pos (show n > 4096 from c2), if_pos c2]; simp [B_nil]
    rw [if_neg (show ¬ n > 4096 from c2), if_neg c2]
    simp only [Option.bind_some, B_size]
    rw [if_pos True.intro]
    by_cases c3 : (r.length : Int) < n
    · rw [if_pos c3, if_pos c3]; simp [B_nil]
    · rw [if_neg c3, if_neg c3, if_pos (by omega), if_pos (by omega)]
      rw [B_ext, B_ext, B_toList, Nat.sub_zero, List.drop_zero, List.take_of_length_le (l := r.drop n.toNat)]
      rw [List.length_drop]; omega
  · have h0 : ¬ e = 0 := by omega
    rw [if_neg h0, if_pos (show e ≠ 0 from h0)]
    simp only [Option.bind_some]
    rw [if_neg h0]
    rfl
end Go.Proofs.Ytgcilfpoblijnaa.XK
