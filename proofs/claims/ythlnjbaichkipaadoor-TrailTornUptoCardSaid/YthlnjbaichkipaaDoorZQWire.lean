-- by a program of this session
import Derived.Laws.BitsLemmas
import Derived.Lib.BitFns
set_option linter.unusedVariables false
set_option linter.unusedSimpArgs false
namespace Go.Proofs.YthlnjbaichkipaaDoor.Wire
def B (l : List UInt8) : ByteArray := ⟨l.toArray⟩
theorem B_toList (l : List UInt8) : (B l).data.toList = l := by simp [B]
theorem B_data (s : ByteArray) : B s.data.toList = s := by cases s; simp [B]
theorem B_size (l : List UInt8) : (B l).size = l.length := by simp [B, ByteArray.size]
theorem B_append (a b : List UInt8) : B a ++ B b = B (a ++ b) := by
  apply ByteArray.ext; simp [B, ByteArray.data_append]
theorem snoc_rec {α : Type} {P : List α → Prop} (h0 : P []) (h1 : ∀ l c, P l → P (l ++ [c])) (l : List α) : P l := by
  have h : ∀ m : List α, P m.reverse := by
    intro m
    induction m with
    | nil => exact h0
    | cons c m ih => rw [List.reverse_cons]; exact h1 _ _ ih
  have := h l.reverse
  rwa [List.reverse_reverse] at this
def dig (m : Nat) : List UInt8 := if h : m = 0 then [] else dig (m / 256) ++ [UInt8.ofNat (m % 256)]
decreasing_by exact Nat.div_lt_self (Nat.pos_of_ne_zero h) (by decide)
def val (l : List UInt8) : Nat := l.foldl (fun m c => 256 * m + c.toNat) 0
theorem dig_zero : dig 0 = [] := by rw [dig]; simp
theorem dig_pos {m : Nat} (h : m ≠ 0) : dig m = dig (m / 256) ++ [UInt8.ofNat (m % 256)] := by rw [dig]; simp [h]
theorem val_nil : val [] = 0 := rfl
theorem val_snoc (l : List UInt8) (c : UInt8) : val (l ++ [c]) = 256 * val l + c.toNat := by simp [val, List.foldl_append]
theorem val_lt (l : List UInt8) : val l < 256 ^ l.length := by
  induction l using snoc_rec with
  | h0 => simp [val]
  | h1 l c ih =>
    rw [val_snoc, List.length_append, List.length_singleton, Nat.pow_succ]
    have := c.toNat_lt
    omega
theorem val_dig (m : Nat) : val (dig m) = m := by
  induction m using Nat.strongRecOn with
  | _ m ih =>
    by_cases h : m = 0
    · subst h; rw [dig_zero]; rfl
    · rw [dig_pos h, val_snoc, ih _ (Nat.div_lt_self (Nat.pos_of_ne_zero h) (by decide))]
      have : (UInt8.ofNat (m % 256)).toNat = m % 256 := by simp
      rw [this]; omega
theorem dig_head {m : Nat} (h : m ≠ 0) : ∃ c l, dig m = c :: l ∧ c ≠ 0 := by
  induction m using Nat.strongRecOn with
  | _ m ih =>
    by_cases h2 : m / 256 = 0
    · refine ⟨UInt8.ofNat (m % 256), [], by rw [dig_pos h, h2, dig_zero]; rfl, ?_⟩
      intro h3
      have := congrArg UInt8.toNat h3
      simp at this; omega
    · obtain ⟨c, l, e, hc⟩ := ih _ (Nat.div_lt_self (Nat.pos_of_ne_zero h) (by decide)) h2
      exact ⟨c, l ++ [UInt8.ofNat (m % 256)], by rw [dig_pos h, e]; rfl, hc⟩
theorem dig_val (l : List UInt8) (h : ∀ c t, l = c :: t → c ≠ 0) : dig (val l) = l := by
  induction l using snoc_rec with
  | h0 => rw [val_nil, dig_zero]
  | h1 l c ih =>
    have hc := c.toNat_lt
    have h2 : ∀ d t, l = d :: t → d ≠ 0 := fun d t e => h d (t ++ [c]) (by rw [e]; rfl)
    have hpos : val (l ++ [c]) ≠ 0 := by
      rw [val_snoc]
      cases l with
      | nil =>
        intro h3
        refine h c [] rfl ?_
        have : c.toNat = 0 := by omega
        exact UInt8.toNat_inj.mp (by simpa using this)
      | cons d t =>
        intro h3
        have h4 := ih h2
        have h5 : val (d :: t) = 0 := by omega
        rw [h5, dig_zero] at h4
        cases h4
    rw [dig_pos hpos, val_snoc]
    have e1 : (256 * val l + c.toNat) / 256 = val l := by omega
    have e2 : (256 * val l + c.toNat) % 256 = c.toNat := by omega
    rw [e1, e2, ih h2]
    simp
theorem dig_len_le {m k : Nat} (h : m < 256 ^ k) : (dig m).length ≤ k := by
  induction k generalizing m with
  | zero => have : m = 0 := by simpa using h
            subst this; rw [dig_zero]; exact Nat.le_refl _
  | succ k ih =>
    by_cases h0 : m = 0
    · subst h0; rw [dig_zero]; exact Nat.zero_le _
    · rw [dig_pos h0, List.length_append, List.length_singleton]
      have : m / 256 < 256 ^ k := by rw [Nat.div_lt_iff_lt_mul (by decide)]; rw [Nat.pow_succ] at h; exact h
      have := ih this
      omega
theorem dig_lt (m : Nat) : m < 256 ^ (dig m).length := by have := val_lt (dig m); rwa [val_dig] at this
theorem dig_ge {m : Nat} (h : m ≠ 0) : 256 ^ ((dig m).length - 1) ≤ m := by
  rcases Nat.lt_or_ge m (256 ^ ((dig m).length - 1)) with h1 | h1
  · have h2 := dig_len_le h1
    obtain ⟨c, l, e, _⟩ := dig_head h
    rw [e] at h2; simp at h2; omega
  · exact h1
theorem dig_get (m i : Nat) (h : i < (dig m).length) : (dig m)[i] = UInt8.ofNat (m / 256 ^ ((dig m).length - 1 - i) % 256) := by
  induction m using Nat.strongRecOn generalizing i with
  | _ m ih =>
    by_cases h0 : m = 0
    · subst h0; simp [dig_zero] at h
    · have e := dig_pos h0
      have hl : (dig m).length = (dig (m / 256)).length + 1 := by rw [e]; simp
      rw [hl] at h
      by_cases hi : i < (dig (m / 256)).length
      · have h1 : (dig m)[i]'(by omega) = (dig (m / 256))[i] := by
          simp only [e, List.getElem_append_left hi]
        rw [h1, ih _ (Nat.div_lt_self (Nat.pos_of_ne_zero h0) (by decide)) i hi, hl, Nat.div_div_eq_div_mul]
        congr 3
        have : (dig (m / 256)).length + 1 - 1 - i = ((dig (m / 256)).length - 1 - i) + 1 := by omega
        rw [this, Nat.pow_succ, Nat.mul_comm]
      · have hi2 : i = (dig (m / 256)).length := by omega
        subst hi2
        have h1 : (dig m)[(dig (m / 256)).length]'(by omega) = UInt8.ofNat (m % 256) := by
          simp only [e]; simp
        rw [h1, hl]
        simp
theorem bitLenAux_lt (f x : Nat) (h : x < 2 ^ f) : x < 2 ^ Lib.bitLenAux f x := by
  induction f generalizing x with
  | zero => simpa [Lib.bitLenAux] using h
  | succ f ih =>
    unfold Lib.bitLenAux
    split
    · rename_i h0; subst h0; simp
    · have := ih (x / 2) (by rw [Nat.pow_succ] at h; omega)
      rw [Nat.add_comm, Nat.pow_succ]; omega
theorem bitLenAux_ge (f x : Nat) (h : x ≠ 0) (hf : f ≠ 0) : 2 ^ (Lib.bitLenAux f x - 1) ≤ x := by
  induction f generalizing x with
  | zero => exact absurd rfl hf
  | succ f ih =>
    unfold Lib.bitLenAux
    rw [if_neg h]
    by_cases h2 : x / 2 = 0
    · have h3 : Lib.bitLenAux f (x / 2) = 0 := by rw [h2]; cases f <;> simp [Lib.bitLenAux]
      rw [h3]; simp; omega
    · by_cases hf0 : f = 0
      · subst hf0; simp [Lib.bitLenAux]; omega
      · have h4 := ih (x / 2) h2 hf0
        have h5 : 0 < Lib.bitLenAux f (x / 2) := by
          cases f with
          | zero => exact absurd rfl hf0
          | succ f => unfold Lib.bitLenAux; rw [if_neg h2]; omega
        have h6 : 1 + Lib.bitLenAux f (x / 2) - 1 = (Lib.bitLenAux f (x / 2) - 1) + 1 := by omega
        rw [h6, Nat.pow_succ]; omega
theorem many_eq (m : Nat) (h : m < 2 ^ 64) : (Lib.bitLen m + 7) / 8 = (dig m).length := by
  by_cases h0 : m = 0
  · subst h0; rw [dig_zero]; decide
  · have h1 := bitLenAux_lt 64 m h
    have h2 := bitLenAux_ge 64 m h0 (by decide)
    have h3 := dig_lt m
    have h4 := dig_ge h0
    have hb : Lib.bitLenAux 64 m = Lib.bitLen m := rfl
    rw [hb] at h1 h2
    have p : ∀ k, (256 : Nat) ^ k = 2 ^ (8 * k) := fun k => by rw [Nat.pow_mul]
    rw [p] at h3 h4
    have hk : 0 < (dig m).length := by
      obtain ⟨c, l, e, _⟩ := dig_head h0
      rw [e]; simp
    have h5 : 8 * ((dig m).length - 1) < Lib.bitLen m := by
      rcases Nat.lt_or_ge (8 * ((dig m).length - 1)) (Lib.bitLen m) with h6 | h6
      · exact h6
      · have := Nat.pow_le_pow_right (n := 2) (by decide) h6; omega
    have h7 : Lib.bitLen m ≤ 8 * (dig m).length := by
      rcases Nat.lt_or_ge (8 * (dig m).length) (Lib.bitLen m) with h6 | h6
      · have : 8 * (dig m).length ≤ Lib.bitLen m - 1 := by omega
        have := Nat.pow_le_pow_right (n := 2) (by decide) this; omega
      · exact h6
    omega
def Fits (n : Int) : Prop := -9223372036854775808 ≤ n ∧ n ≤ 9223372036854775807
theorem dig_len8 {n : Int} (h : Fits n) : (dig n.natAbs).length ≤ 8 := dig_len_le (by unfold Fits at h; omega)
def numL (n : Int) : List UInt8 := UInt8.ofNat ((if n < 0 then 128 else 0) + (dig n.natAbs).length) :: dig n.natAbs
theorem numL_length (n : Int) : (numL n).length = (dig n.natAbs).length + 1 := by simp [numL]
def getL : List UInt8 → Int × List UInt8 × Int
  | [] => (0, [], 5)
  | h :: t =>
    if 8 < h.toNat % 128 then (0, [], 7)
    else if t.length < h.toNat % 128 then (0, [], 5)
    else if 0 < h.toNat % 128 ∧ t.head? = some 0 then (0, [], 7)
    else if 128 ≤ h.toNat then
      if 0 < val (t.take (h.toNat % 128)) ∧ val (t.take (h.toNat % 128)) ≤ 9223372036854775808 then (-(val (t.take (h.toNat % 128)) : Int), t.drop (h.toNat % 128), 0) else (0, [], 7)
    else if val (t.take (h.toNat % 128)) < 9223372036854775808 then ((val (t.take (h.toNat % 128)) : Int), t.drop (h.toNat % 128), 0) else (0, [], 7)
theorem getL_num (n : Int) (hn : Fits n) (r : List UInt8) : getL (numL n ++ r) = (n, r, 0) := by
  have h8 := dig_len8 hn
  have hv := val_dig n.natAbs
  unfold Fits at hn
  unfold numL
  rw [List.cons_append, getL]
  have hh : (UInt8.ofNat ((if n < 0 then 128 else 0) + (dig n.natAbs).length)).toNat = (if n < 0 then 128 else 0) + (dig n.natAbs).length := by
    rw [UInt8.toNat_ofNat']; split <;> omega
  rw [hh]
  have hm : ((if n < 0 then 128 else 0) + (dig n.natAbs).length) % 128 = (dig n.natAbs).length := by split <;> omega
  rw [hm, List.take_left, List.drop_left, hv]
  rw [if_neg (by omega), if_neg (by simp), if_neg]
  rotate_left
  · rintro ⟨h1, h2⟩
    have h0 : n.natAbs ≠ 0 := by intro h0; rw [h0, dig_zero] at h1; simp at h1
    obtain ⟨c, l, e, hc⟩ := dig_head h0
    rw [e] at h2
    simp at h2
    exact hc h2
  by_cases hneg : n < 0
  · rw [if_pos hneg, if_pos (by omega), if_pos (by omega)]
    congr 1; omega
  · rw [if_neg hneg, if_neg (by omega), if_pos (by omega)]
    congr 1; omega
theorem getL_inv (l : List UInt8) : (∃ n r, Fits n ∧ l = numL n ++ r ∧ getL l = (n, r, 0)) ∨ ∃ e, (e = 5 ∨ e = 7) ∧ getL l = (0, [], e) := by
  cases l with
  | nil => exact .inr ⟨5, .inl rfl, rfl⟩
  | cons h t =>
    have hh := h.toNat_lt
    rw [getL]
    by_cases c1 : 8 < h.toNat % 128
    · exact .inr ⟨7, .inr rfl, if_pos c1⟩
    rw [if_neg c1]
    by_cases c2 : t.length < h.toNat % 128
    · exact .inr ⟨5, .inl rfl, if_pos c2⟩
    rw [if_neg c2]
    by_cases c3 : 0 < h.toNat % 128 ∧ t.head? = some 0
    · exact .inr ⟨7, .inr rfl, if_pos c3⟩
    rw [if_neg c3]
    have hlen : (t.take (h.toNat % 128)).length = h.toNat % 128 := by rw [List.length_take]; omega
    have hd : dig (val (t.take (h.toNat % 128))) = t.take (h.toNat % 128) := by
      refine dig_val _ fun c u e hc => c3 ?_
      subst hc
      cases t with
      | nil => simp at e
      | cons d t =>
        have h0 : 0 < h.toNat % 128 := by
          rcases Nat.eq_zero_or_pos (h.toNat % 128) with z | z
          · rw [z] at e; simp at e
          · exact z
        obtain ⟨k, hk⟩ : ∃ k, h.toNat % 128 = k + 1 := ⟨h.toNat % 128 - 1, by omega⟩
        rw [hk, List.take_succ_cons] at e
        injection e with e1 _
        exact ⟨h0, by rw [List.head?_cons, e1]⟩
    have key : ∀ n : Int, n.natAbs = val (t.take (h.toNat % 128)) → (n < 0 ↔ 128 ≤ h.toNat) → h :: t = numL n ++ t.drop (h.toNat % 128) := by
      intro n e1 e2
      unfold numL
      rw [e1, hd, hlen, List.cons_append, List.take_append_drop]
      congr 1
      apply UInt8.toNat_inj.mp
      rw [UInt8.toNat_ofNat']
      by_cases h128 : 128 ≤ h.toNat
      · rw [if_pos (e2.mpr h128)]; omega
      · rw [if_neg (fun hn => h128 (e2.mp hn))]; omega
    by_cases c4 : 128 ≤ h.toNat
    · rw [if_pos c4]
      by_cases c5 : 0 < val (t.take (h.toNat % 128)) ∧ val (t.take (h.toNat % 128)) ≤ 9223372036854775808
      · rw [if_pos c5]
        refine .inl ⟨_, _, ⟨by omega, by omega⟩, key _ (by omega) ⟨fun _ => c4, fun _ => by omega⟩, rfl⟩
      · rw [if_neg c5]; exact .inr ⟨7, .inr rfl, rfl⟩
    · rw [if_neg c4]
      by_cases c5 : val (t.take (h.toNat % 128)) < 9223372036854775808
      · rw [if_pos c5]
        refine .inl ⟨_, _, ⟨by omega, by omega⟩, key _ (by omega) ⟨fun hn => by omega, fun hn => absurd hn c4⟩, rfl⟩
      · rw [if_neg c5]; exact .inr ⟨7, .inr rfl, rfl⟩
end Go.Proofs.YthlnjbaichkipaaDoor.Wire
