-- by a program of this session
import Derived.Test.YtddjklpkhdhfkaaQWireN
import Derived.Test.YtddjklpkhdhfkaaQList
import Derived.Test.YtddjklpkhdhfkaaXT3
import Derived.Test.YtddjklpkhdhfkaaXT2
import Derived.Test.YtddjklpkhdhfkaaXT1
set_option linter.unusedVariables false
set_option linter.unusedSimpArgs false
/-! The printed functions of lists answer as the plain theory says. -/
namespace Go.Proofs.Ytddjklpkhdhfkaa.XT
open Go.RowKit Go.Proofs.YtddjklpkhdhfkaaW.PrintWords Go.Proofs.YtddjklpkhdhfkaaW.PrintLast Go.Proofs.YtddjklpkhdhfkaaW.PrintMore Go.Proofs.Ytddjklpkhdhfkaa.Wire
theorem wrap_i (i : Nat) (h : i ≤ 1000000) : wrap64 ((i : Int) + 1) = ((i + 1 : Nat) : Int) := by unfold wrap64; omega
theorem takeN_fail_num (n : Nat) (l : List UInt8) (h : (takeN getL n l).2.2 ≠ 0) : takeN getL n l = ([], [], (takeN getL n l).2.2) := by
  rcases takeN_inv getL_inv2 n l with ⟨xs, r, _, _, _, e⟩ | ⟨e, _, he⟩
  · rw [e] at h; exact absurd rfl h
  · rw [he]
theorem takeN_fail_text (n : Nat) (l : List UInt8) (h : (takeN decT n l).2.2 ≠ 0) : takeN decT n l = ([], [], (takeN decT n l).2.2) := by
  rcases takeN_inv decT_inv n l with ⟨xs, r, _, _, _, e⟩ | ⟨e, _, he⟩
  · rw [e] at h; exact absurd rfl h
  · rw [he]
theorem listN_l0 (n : Int) : ∀ (m k : Nat) (s : ByteArray) (out : List Int) (i : Nat), ((i + m : Nat) : Int) = n → i + m ≤ 1024 → m + 2 ≤ k → out.length = i →
    ∃ s', wire_ListN.l0 k n s 0 out (i : Int) = some (if (takeN getL m s.data.toList).2.2 = 0 then out ++ (takeN getL m s.data.toList).1 else [], s', (takeN getL m s.data.toList).2.2) ∧ ((takeN getL m s.data.toList).2.2 = 0 → s' = B (takeN getL m s.data.toList).2.1)
  | 0, k, s, out, i, h, h2, hk, ho => by
    obtain ⟨k, rfl⟩ : ∃ m, k = m + 1 := ⟨k - 1, by omega⟩
    rw [wire_ListN.l0, if_neg (by omega)]
    refine ⟨s, ?_, fun _ => ?_⟩
    · simp [takeN]
    · simp [takeN, B_data]
  | m + 1, k, s, out, i, h, h2, hk, ho => by
    obtain ⟨k, rfl⟩ : ∃ m, k = m + 1 := ⟨k - 1, by omega⟩
    obtain ⟨s1, hr, hs1⟩ := reader_num s
    have ht : takeN getL (m + 1) s.data.toList = if (getL s.data.toList).2.2 = 0 then (if (takeN getL m (getL s.data.toList).2.1).2.2 = 0 then ((getL s.data.toList).1 :: (takeN getL m (getL s.data.toList).2.1).1, (takeN getL m (getL s.data.toList).2.1).2.1, 0) else ([], [], (takeN getL m (getL s.data.toList).2.1).2.2)) else ([], [], (getL s.data.toList).2.2) := rfl
    rw [wire_ListN.l0, if_pos (by omega), hr, Option.bind_some, ht]
    simp only
    by_cases hd : (getL s.data.toList).2.2 = 0
    · rw [if_pos hd, if_pos (by omega), if_pos hd, wrap_i i (by omega), hs1 hd, hd]
      obtain ⟨s', e1, e2⟩ := listN_l0 n m k (B (getL s.data.toList).2.1) (out ++ [(getL s.data.toList).1]) (i + 1) (by omega) (by omega) (by omega) (by simp [ho])
      rw [B_toList] at e1 e2
      refine ⟨s', ?_, ?_⟩
      · rw [e1]
        by_cases hq : (takeN getL m (getL s.data.toList).2.1).2.2 = 0
        · rw [if_pos hq, if_pos hq]
          simp [hq]
        · rw [if_neg hq, if_neg hq]
          simp [hq]
      · intro h0
        by_cases hq : (takeN getL m (getL s.data.toList).2.1).2.2 = 0
        · rw [if_pos hq]; exact e2 hq
        · rw [if_neg hq] at h0; exact absurd h0 hq
    · rw [if_neg hd, if_neg hd]
      refine ⟨s1, ?_, fun h0 => absurd h0 hd⟩
      simp [hd]
theorem get_nums_eq (s : ByteArray) (k : Nat) (hk : 1030 ≤ k) : wire_GetNums.f k s = some ((getListL getL s.data.toList).1, B (getListL getL s.data.toList).2.1, (getListL getL s.data.toList).2.2) := by
  unfold wire_GetNums.f wire_ListN.f wire_Reader_Many.f wire_Reader_Num.f getListL
  rw [if_pos rfl, get_eq, Option.bind_some]
  have he := getL_err s.data.toList
  generalize getL s.data.toList = q at he ⊢
  obtain ⟨n, r, e⟩ := q
  simp only [Option.bind_some] at he ⊢
  have stop : ∀ (s' : ByteArray) (y : Int), wire_ListN.l0 k 0 s' y [] 0 = some ([], s', y) := by
    intro s' y
    obtain ⟨k, rfl⟩ : ∃ m, k = m + 1 := ⟨k - 1, by omega⟩
    rw [wire_ListN.l0, if_neg (by decide)]
  by_cases c0 : e = 0
  · have c0' : ¬ (e ≠ 0) := fun h => h c0
    rw [if_neg c0']
    by_cases c1 : n < 0
    · rw [if_pos c1, if_pos c1]
      simp only [Option.bind_some]
      rw [stop]
      rfl
    rw [if_neg c1, if_neg c1]
    by_cases c2 : 1024 < n
    · rw [if_pos c2, if_pos c2]
      simp only [Option.bind_some]
      rw [stop]
      rfl
    rw [if_neg c2, if_neg c2, if_pos c0]
    simp only [Option.bind_some]
    obtain ⟨s', e1, e2⟩ := listN_l0 n n.toNat k (B r) [] 0 (by omega) (by omega) (by omega) rfl
    rw [B_toList] at e1 e2
    rw [c0]
    replace e1 : wire_ListN.l0 k n (B r) 0 [] (0 : Int) = _ := e1
    rw [e1]
    simp only [Option.bind_some]
    unfold wire_Reader_rest.f
    by_cases hq : (takeN getL n.toNat r).2.2 = 0
    · rw [if_pos hq, if_pos hq, e2 hq]
      simp [hq]
    · have hf := takeN_fail_num n.toNat r hq
      rw [if_neg hq, if_neg hq]
      generalize (takeN getL n.toNat r).2.2 = z at hf ⊢
      rw [hf]
      rfl
  · obtain ⟨_, hn0, hr0⟩ := he.resolve_left c0
    rw [if_pos c0, hn0, if_neg (by decide), if_neg (by decide), if_neg c0]
    simp only [Option.bind_some]
    rw [stop]
    simp only [Option.bind_some]
    unfold wire_Reader_rest.f
    rw [if_neg c0]
    rfl
theorem listT_l0 (n : Int) : ∀ (m k : Nat) (s : ByteArray) (out : List ByteArray) (i : Nat), ((i + m : Nat) : Int) = n → i + m ≤ 1024 → m + 2 ≤ k → out.length = i →
    ∃ s', wire_ListT.l0 k n s 0 out (i : Int) = some (if (takeN decT m s.data.toList).2.2 = 0 then out ++ (takeN decT m s.data.toList).1 else [], s', (takeN decT m s.data.toList).2.2) ∧ ((takeN decT m s.data.toList).2.2 = 0 → s' = B (takeN decT m s.data.toList).2.1)
  | 0, k, s, out, i, h, h2, hk, ho => by
    obtain ⟨k, rfl⟩ : ∃ m, k = m + 1 := ⟨k - 1, by omega⟩
    rw [wire_ListT.l0, if_neg (by omega)]
    refine ⟨s, ?_, fun _ => ?_⟩
    · simp [takeN]
    · simp [takeN, B_data]
  | m + 1, k, s, out, i, h, h2, hk, ho => by
    obtain ⟨k, rfl⟩ : ∃ m, k = m + 1 := ⟨k - 1, by omega⟩
    obtain ⟨s1, hr, hs1⟩ := reader_text s k (by omega)
    have ht : takeN decT (m + 1) s.data.toList = if (decT s.data.toList).2.2 = 0 then (if (takeN decT m (decT s.data.toList).2.1).2.2 = 0 then ((decT s.data.toList).1 :: (takeN decT m (decT s.data.toList).2.1).1, (takeN decT m (decT s.data.toList).2.1).2.1, 0) else ([], [], (takeN decT m (decT s.data.toList).2.1).2.2)) else ([], [], (decT s.data.toList).2.2) := rfl
    rw [wire_ListT.l0, if_pos (by omega), hr, Option.bind_some, ht]
    simp only
    by_cases hd : (decT s.data.toList).2.2 = 0
    · rw [if_pos hd, if_pos (by omega), if_pos hd, wrap_i i (by omega), hs1 hd, hd]
      obtain ⟨s', e1, e2⟩ := listT_l0 n m k (B (decT s.data.toList).2.1) (out ++ [(decT s.data.toList).1]) (i + 1) (by omega) (by omega) (by omega) (by simp [ho])
      rw [B_toList] at e1 e2
      refine ⟨s', ?_, ?_⟩
      · rw [e1]
        by_cases hq : (takeN decT m (decT s.data.toList).2.1).2.2 = 0
        · rw [if_pos hq, if_pos hq]
          simp [hq]
        · rw [if_neg hq, if_neg hq]
          simp [hq]
      · intro h0
        by_cases hq : (takeN decT m (decT s.data.toList).2.1).2.2 = 0
        · rw [if_pos hq]; exact e2 hq
        · rw [if_neg hq] at h0; exact absurd h0 hq
    · rw [if_neg hd, if_neg hd]
      refine ⟨s1, ?_, fun h0 => absurd h0 hd⟩
      simp [hd]
theorem get_texts_eq (s : ByteArray) (k : Nat) (hk : 1030 ≤ k) : wire_GetTexts.f k s = some ((getListL decT s.data.toList).1, B (getListL decT s.data.toList).2.1, (getListL decT s.data.toList).2.2) := by
  unfold wire_GetTexts.f wire_ListT.f wire_Reader_Many.f wire_Reader_Num.f getListL
  rw [if_pos rfl, get_eq, Option.bind_some]
  have he := getL_err s.data.toList
  generalize getL s.data.toList = q at he ⊢
  obtain ⟨n, r, e⟩ := q
  simp only [Option.bind_some] at he ⊢
  have stop : ∀ (s' : ByteArray) (y : Int), wire_ListT.l0 k 0 s' y [] 0 = some ([], s', y) := by
    intro s' y
    obtain ⟨k, rfl⟩ : ∃ m, k = m + 1 := ⟨k - 1, by omega⟩
    rw [wire_ListT.l0, if_neg (by decide)]
  by_cases c0 : e = 0
  · have c0' : ¬ (e ≠ 0) := fun h => h c0
    rw [if_neg c0']
    by_cases c1 : n < 0
    · rw [if_pos c1, if_pos c1]
      simp only [Option.bind_some]
      rw [stop]
      rfl
    rw [if_neg c1, if_neg c1]
    by_cases c2 : 1024 < n
    · rw [if_pos c2, if_pos c2]
      simp only [Option.bind_some]
      rw [stop]
      rfl
    rw [if_neg c2, if_neg c2, if_pos c0]
    simp only [Option.bind_some]
    obtain ⟨s', e1, e2⟩ := listT_l0 n n.toNat k (B r) [] 0 (by omega) (by omega) (by omega) rfl
    rw [B_toList] at e1 e2
    rw [c0]
    replace e1 : wire_ListT.l0 k n (B r) 0 [] (0 : Int) = _ := e1
    rw [e1]
    simp only [Option.bind_some]
    unfold wire_Reader_rest.f
    by_cases hq : (takeN decT n.toNat r).2.2 = 0
    · rw [if_pos hq, if_pos hq, e2 hq]
      simp [hq]
    · have hf := takeN_fail_text n.toNat r hq
      rw [if_neg hq, if_neg hq]
      generalize (takeN decT n.toNat r).2.2 = z at hf ⊢
      rw [hf]
      rfl
  · obtain ⟨_, hn0, hr0⟩ := he.resolve_left c0
    rw [if_pos c0, hn0, if_neg (by decide), if_neg (by decide), if_neg c0]
    simp only [Option.bind_some]
    rw [stop]
    simp only [Option.bind_some]
    unfold wire_Reader_rest.f
    rw [if_neg c0]
    rfl
theorem put_len (n : Int) (hn : Fits n) : (wire_Put.bytes n).length ≤ 9 := by
  have h := congrArg List.length (put_bytes n hn)
  rw [List.length_map, numL_length] at h
  have := dig_len8 hn
  omega
theorem put_f (acc : List Int) (n : Int) (hn : Fits n) (h : acc.length ≤ 100000000) : wire_Put.f acc n = some (acc ++ wire_Put.bytes n) := by
  unfold wire_Put.f
  rw [if_pos ⟨hn.1, hn.2, by omega⟩]
def nb (acc : List Int) : List UInt8 := acc.map (fun x => UInt8.ofNat x.toNat)
theorem str_nb (acc : List Int) : strOfNums acc = B (nb acc) := rfl
theorem nb_put (acc : List Int) (n : Int) (hn : Fits n) : nb (acc ++ wire_Put.bytes n) = nb acc ++ numL n := by
  unfold nb
  rw [List.map_append, put_bytes n hn]
theorem nb_bytes (acc : List Int) (s : ByteArray) : nb (acc ++ bytesOf s) = nb acc ++ s.data.toList := by
  unfold nb bytesOf
  rw [List.map_append, List.map_map]
  congr 1
  conv => rhs; rw [← List.map_id s.data.toList]
  apply List.map_congr_left
  intro b _
  simp
theorem encAll_cons {α : Type} (enc : α → List UInt8) (a : α) (l : List α) : encAll enc (a :: l) = enc a ++ encAll enc l := by simp [encAll]
theorem nums_l0 (l : List Int) (hf : ∀ a ∈ l, Fits a) (hl : l.length ≤ 1024) : ∀ (m k i : Nat) (acc : List Int), i + m = l.length → acc.length ≤ 9 * (i + 1) → m + 1 ≤ k →
    wire_Nums.l0 k acc l (l.length : Int) (i : Int) = some (B (nb acc ++ encAll numL (l.drop i)), 0)
  | 0, k, i, acc, h, ha, hk => by
    obtain ⟨k, rfl⟩ : ∃ m, k = m + 1 := ⟨k - 1, by omega⟩
    rw [wire_Nums.l0, if_neg (by omega), List.drop_of_length_le (by omega), str_nb]
    simp [encAll]
  | m + 1, k, i, acc, h, ha, hk => by
    obtain ⟨k, rfl⟩ : ∃ m, k = m + 1 := ⟨k - 1, by omega⟩
    have hi : i < l.length := by omega
    have hr : rd l (i : Int) = l[i] := by
      unfold rd
      rw [Int.toNat_natCast, List.getD_eq_getElem?_getD, List.getElem?_eq_getElem hi]; rfl
    have hn := hf l[i] (List.getElem_mem hi)
    have hp := put_len l[i] hn
    rw [wire_Nums.l0, if_pos (by omega), if_pos (by omega), if_pos (by omega), hr, put_f acc _ hn (by omega), Option.bind_some, wrap_i i (by omega)]
    rw [nums_l0 l hf hl m k (i + 1) _ (by omega) (by rw [List.length_append]; omega) (by omega), nb_put acc _ hn, List.drop_eq_getElem_cons hi, encAll_cons, List.append_assoc]
theorem nums_eq (l : List Int) (hf : ∀ a ∈ l, Fits a) (k : Nat) (hk : 1030 ≤ k) : wire_Nums.f k l = if l.length ≤ 1024 then some (B (listL numL l), 0) else some (B [], 12) := by
  unfold wire_Nums.f
  by_cases h : l.length ≤ 1024
  · have hn : Fits (l.length : Int) := ⟨by omega, by omega⟩
    have hp := put_len _ hn
    have e := nums_l0 l hf h l.length k 0 (wire_Put.bytes (l.length : Int)) (by omega) (by omega) (by omega)
    rw [if_neg (by omega), if_pos h, put_f [] _ hn (by simp), Option.bind_some, List.nil_append]
    have e0 : nb (wire_Put.bytes (l.length : Int)) = numL (l.length : Int) := put_bytes _ hn
    rw [e0] at e
    exact e
  · rw [if_pos (by omega), if_neg h]; rfl
def allT (l : List ByteArray) : Bool := l.all (fun s => decide (s.data.toList.length ≤ 4096))
theorem allT_cons (a : ByteArray) (l : List ByteArray) : allT (a :: l) = (decide (a.data.toList.length ≤ 4096) && allT l) := rfl
theorem allT_ok (l : List ByteArray) (h : allT l = true) : ∀ a ∈ l, okT a := by
  intro a ha
  unfold allT at h
  have h2 := List.all_eq_true.mp h a ha
  exact of_decide_eq_true (p := a.data.toList.length ≤ 4096) h2
theorem ok_allT (l : List ByteArray) (h : ∀ a ∈ l, okT a) : allT l = true := List.all_eq_true.mpr (fun a ha => decide_eq_true (show a.data.toList.length ≤ 4096 from h a ha))
theorem encT_len (s : ByteArray) (h : s.data.toList.length ≤ 4096) : (encT s).length ≤ 4105 := by
  have := dig_len8 (n := (s.data.toList.length : Int)) ⟨by omega, by omega⟩
  unfold encT textL
  rw [List.length_append, numL_length]
  omega
theorem rdT (l : List ByteArray) (i : Nat) (hi : i < l.length) : rdOf ByteArray.empty l (i : Int) = l[i] := by
  unfold rdOf
  rw [Int.toNat_natCast, List.getD_eq_getElem?_getD, List.getElem?_eq_getElem hi]; rfl
theorem texts_l0 (l : List ByteArray) (hl : l.length ≤ 1024) : ∀ (m k i : Nat) (acc : List Int), i + m = l.length → acc.length ≤ 9 + 4105 * i → m + 1 ≤ k →
    wire_Texts.l0 k acc l (l.length : Int) (i : Int) = if allT (l.drop i) = true then some (B (nb acc ++ encAll encT (l.drop i)), 0) else some (B [], 12)
  | 0, k, i, acc, h, ha, hk => by
    obtain ⟨k, rfl⟩ : ∃ m, k = m + 1 := ⟨k - 1, by omega⟩
    rw [wire_Texts.l0, if_neg (by omega), List.drop_of_length_le (by omega), str_nb]
    simp [encAll, allT]
  | m + 1, k, i, acc, h, ha, hk => by
    obtain ⟨k, rfl⟩ : ∃ m, k = m + 1 := ⟨k - 1, by omega⟩
    have hi : i < l.length := by omega
    have ht := text_eq (l[i]).data.toList
    rw [B_data] at ht
    rw [wire_Texts.l0, if_pos (by omega), if_pos (by omega), if_pos (by omega), rdT l i hi, ht, List.drop_eq_getElem_cons hi, allT_cons]
    by_cases c : (l[i]).data.toList.length ≤ 4096
    · have hlen := encT_len l[i] c
      unfold encT at hlen
      rw [if_pos c, Option.bind_some, B_size]
      simp only
      rw [if_pos trivial, if_pos (by omega), wrap_i i (by omega)]
      rw [texts_l0 l hl m k (i + 1) _ (by omega) (by rw [List.length_append, bytesOf_length, B_size]; omega) (by omega), nb_bytes, B_toList, decide_eq_true c, Bool.true_and, encAll_cons, List.append_assoc]
      rfl
    · rw [if_neg c, Option.bind_some, decide_eq_false c, Bool.false_and]
      simp only
      rw [if_neg (by decide), if_neg (by decide)]
      rfl
theorem texts_eq (l : List ByteArray) (k : Nat) (hk : 1030 ≤ k) : wire_Texts.f k l = if l.length ≤ 1024 ∧ allT l = true then some (B (listL encT l), 0) else some (B [], 12) := by
  unfold wire_Texts.f
  by_cases h : l.length ≤ 1024
  · have hn : Fits (l.length : Int) := ⟨by omega, by omega⟩
    have hp := put_len _ hn
    have e := texts_l0 l h l.length k 0 (wire_Put.bytes (l.length : Int)) (by omega) (by omega) (by omega)
    rw [if_neg (by omega), put_f [] _ hn (by simp), Option.bind_some, List.nil_append]
    have e0 : nb (wire_Put.bytes (l.length : Int)) = numL (l.length : Int) := put_bytes _ hn
    rw [e0, List.drop_zero] at e
    simp only [h, true_and]
    exact e
  · rw [if_pos (by omega), if_neg (fun c => h c.1)]; rfl
end Go.Proofs.Ytddjklpkhdhfkaa.XT
