-- by a program of this session
import Derived.Test.YtgcilfpoblijnaaQKeysF
import Derived.Test.YtgcilfpoblijnaaQWireR
import Derived.Test.YtgcilfpoblijnaaXK5
import Derived.Test.YtgcilfpoblijnaaXK8
set_option linter.unusedVariables false
set_option linter.unusedSimpArgs false
/-! The definition of keys answers as the plain theory says. -/
namespace Go.Proofs.Ytgcilfpoblijnaa.XK
open Go.RowKit Go.Proofs.YtgcilfpoblijnaaW.PrintWords Go.Proofs.YtgcilfpoblijnaaW.PrintLast Go.Proofs.YtgcilfpoblijnaaW.PrintMore Go.Proofs.Ytgcilfpoblijnaa.Wire
theorem ref_name_l0 (s : ByteArray) (hs : s.size ≤ 1048576) : ∀ (m k i : Nat), i + m = s.data.toList.length → m + 1 ≤ k → bellmanref28_Name.l0 k s (i : Int) = some (if ((s.data.toList.drop i).all goodB && (decide (s.data.toList ≠ []) && decide (s.data.toList.length ≤ 32))) = true then 0 else 13)
  | 0, k, i, h, hk => by
    obtain ⟨k, rfl⟩ : ∃ m, k = m + 1 := ⟨k - 1, by omega⟩
    have hz := data_size s
    rw [bellmanref28_Name.l0, if_neg (by omega), List.drop_of_length_le (by omega)]
    simp only [List.all_nil, Bool.true_and]
    by_cases c0 : s.data.toList = []
    · rw [if_pos ((toL_nil s).mpr c0), c0]; rfl
    · rw [if_neg (fun h => c0 ((toL_nil s).mp h)), decide_eq_true c0, Bool.true_and]
      by_cases c1 : s.data.toList.length ≤ 32
      · rw [if_neg (by omega), decide_eq_true c1]; rfl
      · rw [if_pos (by omega), decide_eq_false c1]; rfl
  | m + 1, k, i, h, hk => by
    obtain ⟨k, rfl⟩ : ∃ m, k = m + 1 := ⟨k - 1, by omega⟩
    have hz := data_size s
    have hi : i < s.data.toList.length := by omega
    have ih := ref_name_l0 s hs m k (i + 1) (by omega) (by omega)
    rw [bellmanref28_Name.l0, if_pos (by omega), if_pos (by omega), bt_list s i hi, wrap_j i (by omega), ih, List.drop_eq_getElem_cons hi, List.all_cons]
    generalize s.data.toList[i] = c
    by_cases c1 : c.toNat ≤ 32
    · have : goodB c = false := by unfold goodB; rw [decide_eq_false (by omega)]; rfl
      rw [if_pos (by omega), this]; rfl
    · by_cases c2 : 126 < c.toNat
      · have : goodB c = false := by unfold goodB; rw [decide_eq_false (p := c.toNat ≤ 126) (by omega), Bool.and_false]
        rw [if_neg (by omega), if_pos (by omega), this]; rfl
      · have : goodB c = true := by unfold goodB; rw [decide_eq_true (by omega), decide_eq_true (by omega)]; rfl
        rw [if_neg (by omega), if_neg (by omega), this, Bool.true_and]
theorem ref_name_eq (s : ByteArray) (hs : s.size ≤ 1048576) (k : Nat) (hk : s.size + 1 ≤ k) : bellmanref28_Name.f k s = some (if nameOk s.data.toList = true then 0 else 13) :=
  ref_name_l0 s hs s.data.toList.length k 0 (by omega) (by rw [← data_size]; exact hk)
theorem ref_check_l1 (l : List S91) (h32 : l.length ≤ 32) (i : Nat) (hi : i < l.length) (M : Nat) : ∀ (d k t : Nat), t + d = i → M + d + 1 ≤ k →
    (bellmanref28_Check.l1 k l l (l.length : Int) (i : Int) (l.take i) (i : Int) (t : Int) l[i].f0 l[i].f1 = some 2 ∧ nm l[i] ∈ (l.take i).map nm) ∨
    (∃ k', M ≤ k' ∧ bellmanref28_Check.l1 k l l (l.length : Int) (i : Int) (l.take i) (i : Int) (t : Int) l[i].f0 l[i].f1 = bellmanref28_Check.l0 k' l l (l.length : Int) ((i + 1 : Nat) : Int) ∧ ∀ (t' : Nat) (h : t' < l.length), t ≤ t' → t' < i → nm l[t'] ≠ nm l[i])
  | 0, k, t, h, hk => by
    obtain ⟨k, rfl⟩ : ∃ m, k = m + 1 := ⟨k - 1, by omega⟩
    rw [bellmanref28_Check.l1, if_neg (by omega), wrap_j i (by omega)]
    exact .inr ⟨k, by omega, rfl, fun t' _ h1 h2 => by omega⟩
  | d + 1, k, t, h, hk => by
    obtain ⟨k, rfl⟩ : ∃ m, k = m + 1 := ⟨k - 1, by omega⟩
    have hl : (l.take i).length = i := by rw [List.length_take]; omega
    have ht : t < (l.take i).length := by omega
    rw [bellmanref28_Check.l1, if_pos (by omega), if_pos (by omega), if_pos (by omega), rd_eq (l.take i) t ht, wrap_j t (by omega)]
    have he : (l.take i)[t] = l[t] := List.getElem_take
    rw [he]
    by_cases c : nm l[t] = nm l[i]
    · rw [if_pos ((tl_iff _ _).mpr c)]
      refine .inl ⟨rfl, ?_⟩
      exact List.mem_map.mpr ⟨l[t], List.mem_take_iff_getElem.mpr ⟨t, by omega, rfl⟩, c⟩
    · rw [if_neg (fun h => c ((tl_iff _ _).mp h))]
      rcases ref_check_l1 l h32 i hi M d k (t + 1) (by omega) (by omega) with ⟨h1, h2⟩ | ⟨k', hk', h1, h2⟩
      · exact .inl ⟨h1, h2⟩
      · refine .inr ⟨k', hk', h1, fun t' ht' h3 h4 => ?_⟩
        by_cases e : t = t'
        · subst e; exact c
        · exact h2 t' ht' (by omega) h4
theorem ref_check_l0 (l : List S91) (h32 : l.length ≤ 32) (hn : ∀ x ∈ l, x.f0.size ≤ 1048576) : ∀ (m k i : Nat), i + m = l.length → 1100000 + 40 * m + 1 ≤ k →
    (bellmanref28_Check.l0 k l l (l.length : Int) (i : Int) = some 0 ∧ ∀ (j : Nat) (h : j < l.length), i ≤ j → goodAt l j h) ∨ (bellmanref28_Check.l0 k l l (l.length : Int) (i : Int) = some 2 ∧ ∃ (j : Nat) (h : j < l.length), ¬ goodAt l j h)
  | 0, k, i, h, hk => by
    obtain ⟨k, rfl⟩ : ∃ m, k = m + 1 := ⟨k - 1, by omega⟩
    rw [bellmanref28_Check.l0, if_neg (by omega)]
    exact .inl ⟨rfl, fun j hj hij => by omega⟩
  | m + 1, k, i, h, hk => by
    obtain ⟨k, rfl⟩ : ∃ m, k = m + 1 := ⟨k - 1, by omega⟩
    have hi : i < l.length := by omega
    have hx := hn l[i] (List.getElem_mem hi)
    have hl : (l.take i).length = i := by rw [List.length_take]; omega
    rw [bellmanref28_Check.l0, if_pos (by omega), if_pos (by omega), if_pos (by omega), rd_eq l i hi, ref_name_eq l[i].f0 hx k (by omega), Option.bind_some]
    by_cases c1 : nameOk l[i].f0.data.toList = true
    · rw [if_pos c1, if_pos rfl, if_pos (by omega), Option.bind_some, Int.toNat_natCast, hl]
      rcases ref_check_l1 l h32 i hi (1100000 + 40 * m + 1) i k 0 (by omega) (by omega) with ⟨h1, h2⟩ | ⟨k', hk', h1, h2⟩
      · exact .inr ⟨h1, i, hi, fun hg => hg.2 h2⟩
      · replace h1 : bellmanref28_Check.l1 k l l (l.length : Int) (i : Int) (l.take i) (i : Int) 0 l[i].f0 l[i].f1 = _ := h1
        rw [h1]
        rcases ref_check_l0 l h32 hn m k' (i + 1) (by omega) (by omega) with ⟨g1, g2⟩ | ⟨g1, g2⟩
        · refine .inl ⟨g1, fun j hj hij => ?_⟩
          by_cases e : i = j
          · subst e
            refine ⟨c1, fun hm => ?_⟩
            obtain ⟨x, hx', e⟩ := List.mem_map.mp hm
            obtain ⟨t, ht, rfl⟩ := List.mem_take_iff_getElem.mp hx'
            exact h2 t (by omega) (Nat.zero_le _) (by omega) e
          · exact g2 j hj (by omega)
        · exact .inr ⟨g1, g2⟩
    · rw [if_neg c1, if_neg (by decide)]
      exact .inr ⟨rfl, i, hi, fun hg => c1 hg.1⟩
theorem ref_check_eq (l : List S91) (hn : ∀ x ∈ l, x.f0.size ≤ 1048576) (k : Nat) (hk : 1200000 ≤ k) : bellmanref28_Check.f k l = some (if okL l then 0 else 2) := by
  unfold bellmanref28_Check.f
  by_cases c : l.length ≤ 32
  · rw [if_neg (by omega)]
    rcases ref_check_l0 l c hn l.length k 0 (by omega) (by omega) with ⟨h1, h2⟩ | ⟨h1, j, hj, h2⟩
    · rw [if_pos ((okL_iff l).mpr ⟨c, fun j h => h2 j h (Nat.zero_le _)⟩)]
      exact h1
    · rw [if_neg (fun h => h2 (((okL_iff l).mp h).2 j hj))]
      exact h1
  · rw [if_pos (by omega), if_neg (fun h => c h.1)]
theorem ref_find_l0 (l : List S91) (h32 : l.length ≤ 32) (name : ByteArray) : ∀ (m k i : Nat), i + m = l.length → m + 1 ≤ k → bellmanref28_Find.l0 k name l (l.length : Int) (i : Int) = some (findK name.data.toList (l.drop i))
  | 0, k, i, h, hk => by
    obtain ⟨k, rfl⟩ : ∃ m, k = m + 1 := ⟨k - 1, by omega⟩
    rw [bellmanref28_Find.l0, if_neg (by omega), List.drop_of_length_le (by omega)]
    rfl
  | m + 1, k, i, h, hk => by
    obtain ⟨k, rfl⟩ : ∃ m, k = m + 1 := ⟨k - 1, by omega⟩
    have hi : i < l.length := by omega
    rw [bellmanref28_Find.l0, if_pos (by omega), if_pos (by omega), if_pos (by omega), rd_eq l i hi, wrap_j i (by omega), List.drop_eq_getElem_cons hi, findK]
    by_cases c : nm l[i] = name.data.toList
    · rw [if_pos ((tl_iff _ _).mpr c), if_pos c]
    · rw [if_neg (fun h => c ((tl_iff _ _).mp h)), if_neg c]
      exact ref_find_l0 l h32 name m k (i + 1) (by omega) (by omega)
theorem ref_find_eq (l : List S91) (hn : ∀ x ∈ l, x.f0.size ≤ 1048576) (name : ByteArray) (k : Nat) (hk : 1200000 ≤ k) : bellmanref28_Find.f k l name = some (if okL l then findK name.data.toList l else (0, 2)) := by
  unfold bellmanref28_Find.f
  rw [ref_check_eq l hn k hk, Option.bind_some]
  by_cases c : okL l
  · rw [if_pos c, if_pos rfl, if_pos c]
    exact ref_find_l0 l c.1 name l.length k 0 (by omega) (by have := c.1; omega)
  · rw [if_neg c, if_neg (by decide), if_neg c]
theorem ref_copy_eq (l : List S91) (h : l.length ≤ 100) : bellmanref28_Copy.f l = some l := by
  unfold bellmanref28_Copy.f
  rw [Option.bind_some, if_pos (by simp; omega)]
  rfl
theorem ref_put_eq (l : List S91) (hn : ∀ x ∈ l, x.f0.size ≤ 1048576) (name : ByteArray) (hs : name.size ≤ 1048576) (reply : Int) (k : Nat) (hk : 1200000 ≤ k) : bellmanref28_Put.f k l name reply = some (putL l name reply) := by
  unfold bellmanref28_Put.f putL
  rw [ref_check_eq l hn k hk, Option.bind_some]
  by_cases c : okL l
  · have h32 : l.length ≤ 32 := c.1
    rw [if_pos c, if_pos rfl, if_pos c, ref_name_eq name hs k (by omega), Option.bind_some]
    by_cases c1 : nameOk name.data.toList = true
    · rw [if_pos c1, if_pos rfl, if_pos c1, ref_find_eq l hn name k hk, if_pos c, Option.bind_some, ref_copy_eq l (by omega), Option.bind_some, Option.bind_some]
      rcases ix_spec name l 0 with ⟨h1, h2, h3⟩ | ⟨j, h, h1, h2, h3, h4⟩
      · rw [h3, if_neg (by decide), if_neg h2, if_pos (by omega), Option.bind_some, List.length_append]
        by_cases c3 : l.length = 32
        · rw [if_pos (by simp; omega), if_pos c3, if_pos (by omega)]
          rw [show (1 : Int).toNat = 1 from rfl, List.drop_append_of_le_length (by omega)]
        · rw [if_neg (by simp; omega), if_neg c3]
      · rw [h4]
        simp only
        rw [if_pos True.intro, if_pos (List.mem_map.mpr ⟨l[j], List.getElem_mem h, h2⟩)]
    · rw [if_neg c1, if_neg (by decide), if_neg c1, ref_copy_eq l (by omega), Option.bind_some]
  · rw [if_neg c, if_neg (by decide), if_neg c]
theorem encAll_len (l : List S91) (hx : ∀ x ∈ l, (nm x).length ≤ 32 ∧ Fits x.f1) : (encAll encK (l.map pr)).length ≤ 100 * l.length := by
  induction l with
  | nil => simp [encAll]
  | cons x l ih =>
    have h := ih (fun y hy => hx y (List.mem_cons_of_mem _ hy))
    obtain ⟨h1, h2⟩ := hx x List.mem_cons_self
    have e : encAll encK ((x :: l).map pr) = numL ((nm x).length : Int) ++ (nm x) ++ numL x.f1 ++ encAll encK (l.map pr) := by
      simp [encAll, encK, encT, textL, pr, nm]
    have h3 := dig_len8 (n := ((nm x).length : Int)) ⟨by omega, by omega⟩
    have h4 := dig_len8 h2
    rw [e, List.length_append, List.length_append, List.length_append, numL_length, numL_length, List.length_cons]
    omega
theorem encAll_cons {α : Type} (enc : α → List UInt8) (a : α) (l : List α) : encAll enc (a :: l) = enc a ++ encAll enc l := by simp [encAll]
theorem ref_enc_l0 (l : List S91) (h32 : l.length ≤ 32) (hx : ∀ x ∈ l, (nm x).length ≤ 32 ∧ Fits x.f1) : ∀ (m k i : Nat) (u : List UInt8), i + m = l.length → m + 20 ≤ k → u.length ≤ 10000 + 100 * i → bellmanref28_Encode.l0 k (B u) l (l.length : Int) (i : Int) = some (B (u ++ encAll encK ((l.drop i).map pr)), 0)
  | 0, k, i, u, h, hk, hu => by
    obtain ⟨k, rfl⟩ : ∃ m, k = m + 1 := ⟨k - 1, by omega⟩
    rw [bellmanref28_Encode.l0, if_neg (by omega), List.drop_of_length_le (by omega)]
    simp [encAll]
  | m + 1, k, i, u, h, hk, hu => by
    obtain ⟨k, rfl⟩ : ∃ m, k = m + 1 := ⟨k - 1, by omega⟩
    have hi : i < l.length := by omega
    obtain ⟨h1, h2⟩ := hx l[i] (List.getElem_mem hi)
    have ht := ref_text (nm l[i]) k (by omega)
    rw [if_pos (by omega)] at ht
    unfold nm at ht
    rw [B_data] at ht
    have l1 := dig_len8 (n := (((nm l[i]).length : Nat) : Int)) ⟨by omega, by omega⟩
    have l2 := dig_len8 h2
    have t1 : (textL (nm l[i])).length ≤ 41 := by unfold textL; rw [List.length_append, numL_length]; omega
    have t2 : (numL l[i].f1).length ≤ 9 := by rw [numL_length]; omega
    have ht' : bellmanref01_Text.f k l[i].f0 = some (B (textL (nm l[i])), 0) := ht
    rw [bellmanref28_Encode.l0, if_pos (by omega), if_pos (by omega), if_pos (by omega), rd_eq l i hi, ht', Option.bind_some, ref_num9 _ h2 k (by omega), Option.bind_some, wrap_j i (by omega)]
    simp only
    rw [B_size, B_size, if_pos (by omega), B_append, B_size, B_size, List.length_append, if_pos (by omega), B_append]
    rw [ref_enc_l0 l h32 hx m k (i + 1) _ (by omega) (by omega) (by rw [List.length_append, List.length_append]; omega)]
    rw [List.drop_eq_getElem_cons hi, List.map_cons, encAll_cons]
    have e : encK (pr l[i]) = textL (nm l[i]) ++ numL l[i].f1 := rfl
    rw [e, List.append_assoc]
theorem ref_encode_eq (l : List S91) (hn : ∀ x ∈ l, x.f0.size ≤ 1048576) (hf : ∀ x ∈ l, Fits x.f1) (k : Nat) (hk : 1200000 ≤ k) : bellmanref28_Encode.f k l = some (if okL l then (B (encL l), 0) else (B [], 2)) := by
  unfold bellmanref28_Encode.f
  rw [ref_check_eq l hn k hk, Option.bind_some]
  by_cases c : okL l
  · have h32 : l.length ≤ 32 := c.1
    have hl : Fits (l.length : Int) := ⟨by omega, by omega⟩
    have h8 := dig_len8 hl
    rw [if_pos c, if_pos rfl, if_pos c, ref_num9 _ hl k (by omega), Option.bind_some]
    have h := ref_enc_l0 l h32 (fun x hx => ⟨nameOk_len (c.2.1 x hx), hf x hx⟩) l.length k 0 (numL (l.length : Int)) (by omega) (by omega) (by rw [numL_length]; omega)
    rw [List.drop_zero] at h
    unfold encL listL
    rw [List.length_map]
    exact h
  · rw [if_neg c, if_neg (by decide), if_neg c]
    rfl
theorem takeN_zero {α : Type} (dec : List UInt8 → α × List UInt8 × Int) (u : List UInt8) : takeN dec 0 u = ([], u, 0) := rfl
theorem ref_dec_l0 (n : Int) : ∀ (m k : Nat) (s : ByteArray) (out : List S91) (i : Nat), ((i + m : Nat) : Int) = n → i + m ≤ 32 → m + 1200100 ≤ k → out.length = i → (∀ x ∈ out, x.f0.size ≤ 1048576) → s.size ≤ 1048576 →
    bellmanref28_Decode.l0 k n s out (i : Int) = some (if (takeN decK m s.data.toList).2.2 = 0 ∧ okL (out ++ (takeN decK m s.data.toList).1.map mk) then (out ++ (takeN decK m s.data.toList).1.map mk, B (takeN decK m s.data.toList).2.1, 0) else ([], B [], 7))
  | 0, k, s, out, i, h, h2, hk, ho, hx, hz => by
    obtain ⟨k, rfl⟩ : ∃ m, k = m + 1 := ⟨k - 1, by omega⟩
    rw [bellmanref28_Decode.l0, if_neg (by omega), ref_check_eq out hx k (by omega), Option.bind_some, takeN_zero]
    simp only [List.map_nil, List.append_nil, true_and]
    by_cases c : okL out
    · rw [if_pos c, if_pos rfl, if_pos c, B_data]
    · rw [if_neg c, if_neg (by decide), if_neg c]; rfl
  | m + 1, k, s, out, i, h, h2, hk, ho, hx, hz => by
    obtain ⟨k, rfl⟩ : ∃ m, k = m + 1 := ⟨k - 1, by omega⟩
    have ht : takeN decK (m + 1) s.data.toList = if (decK s.data.toList).2.2 = 0 then (if (takeN decK m (decK s.data.toList).2.1).2.2 = 0 then ((decK s.data.toList).1 :: (takeN decK m (decK s.data.toList).2.1).1, (takeN decK m (decK s.data.toList).2.1).2.1, 0) else ([], [], (takeN decK m (decK s.data.toList).2.1).2.2)) else ([], [], (decK s.data.toList).2.2) := rfl
    rw [bellmanref28_Decode.l0, if_pos (by omega), ref_get_text s k (by omega), Option.bind_some, ref_get _ k (by omega), Option.bind_some, ht]
    simp only [B_toList]
    have hz' := data_size s
    rcases decT_inv s.data.toList with ⟨t, r, h0, e, hd⟩ | ⟨d, e, he, hd⟩
    · have hd' := hd
      unfold decT at hd'
      simp only [Prod.mk.injEq] at hd'
      obtain ⟨d1, d2, d3⟩ := hd'
      rw [d2, d3, if_pos rfl]
      have ek : decK s.data.toList = if (getL r).2.2 = 0 then ((t, (getL r).1), (getL r).2.1, 0) else ((ByteArray.empty, 0), [], (getL r).2.2) := by
        unfold decK; rw [hd]; simp only [if_true]
      rw [ek, d1]
      by_cases c : (getL r).2.2 = 0
      · rw [if_pos c, if_pos c, if_pos (by omega), if_pos rfl, wrap_j i (by omega)]
        have hlen := congrArg List.length e
        rw [List.length_append] at hlen
        have htl : t.data.toList.length ≤ (encT t).length := by unfold encT textL; rw [List.length_append]; omega
        have hrl : (getL r).2.1.length ≤ r.length := by
          rcases getL_inv r with ⟨n', q, _, er, hg⟩ | ⟨e', he', hg⟩
          · rw [hg]
            have := congrArg List.length er
            rw [List.length_append] at this
            simp only
            omega
          · rw [hg]; simp
        have htz := data_size t
        rw [ref_dec_l0 n m k (B (getL r).2.1) (out ++ [S91.mk t (getL r).1]) (i + 1) (by omega) (by omega) (by omega) (by simp [ho]) (fun x hx' => by
          rcases List.mem_append.mp hx' with h' | h'
          · exact hx x h'
          · rw [List.mem_singleton] at h'
            subst h'
            show t.size ≤ 1048576
            omega) (by rw [B_size]; omega)]
        rw [B_toList]
        simp only
        by_cases hq : (takeN decK m (getL r).2.1).2.2 = 0
        · rw [if_pos hq]
          simp only [hq, List.map_cons, true_and, List.append_assoc, List.singleton_append]
          rfl
        · rw [if_neg hq]
          rw [if_neg (fun h => hq h.1), if_neg (fun h => hq h.1)]
      · rw [if_neg c, if_neg c]
        simp only
        rw [if_neg c, if_neg (fun h => c h.1)]
        rfl
    · have e2 : (getTL s.data.toList).2.2 = e := by
        have := congrArg Prod.snd hd
        unfold decT at this
        exact this
      have ek : (decK s.data.toList).2.2 = e := by
        unfold decK; rw [hd]
        simp only
        rw [if_neg he]
      rw [e2, ek, if_neg he, if_neg he]
      rw [if_neg (fun h => he h.1)]
      rfl
theorem ref_decode_eq (s : ByteArray) (hs : s.size ≤ 1048576) (k : Nat) (hk : 1300000 ≤ k) : bellmanref28_Decode.f k s = some (decL s.data.toList) := by
  unfold bellmanref28_Decode.f decL getListL
  rw [ref_get s k (by omega), Option.bind_some]
  have hinv := getL_inv s.data.toList
  have he := getL_err s.data.toList
  have hz := data_size s
  have j0t : ∀ (k : Nat) (x : Int) (q : ByteArray), 1 ≤ k → bellmanref28_Decode.j0 k x q true = some ([], B [], 7) := by
    intro k x q hk
    obtain ⟨k, rfl⟩ : ∃ m, k = m + 1 := ⟨k - 1, by omega⟩
    rw [bellmanref28_Decode.j0, if_pos rfl]; rfl
  have hrl : (getL s.data.toList).2.1.length ≤ s.data.toList.length := by
    rcases hinv with ⟨n', q, _, er, hg⟩ | ⟨e', he', hg⟩
    · rw [hg]
      have := congrArg List.length er
      rw [List.length_append] at this
      simp only
      omega
    · rw [hg]; simp
  generalize getL s.data.toList = q at he hrl ⊢
  obtain ⟨n, r, e⟩ := q
  simp only at he hrl ⊢
  by_cases c0 : e = 0
  · have c0' : ¬ (e ≠ 0) := fun h => h c0
    rw [if_pos c0, if_neg c0']
    by_cases c1 : n < 0
    · rw [if_pos c1, if_pos c1, j0t k _ _ (by omega), if_neg (fun h => absurd h.1 (by decide))]
    · rw [if_neg c1, if_neg c1]
      by_cases c2 : 32 < n
      · rw [decide_eq_true c2, j0t k _ _ (by omega)]
        by_cases c3 : 1024 < n
        · rw [if_pos c3, if_neg (fun h => absurd h.1 (by decide))]
        · rw [if_neg c3, if_neg ?_]
          rintro ⟨h1, h2⟩
          rcases takeN_inv decK_inv n.toNat r with ⟨xs, q, hl, _, _, ht⟩ | ⟨e', he', ht⟩
          · rw [ht] at h2
            have := h2.1
            rw [List.length_map] at this
            simp only at this
            omega
          · rw [ht] at h1; exact he' h1
      · rw [decide_eq_false c2, if_neg (show ¬ 1024 < n by omega)]
        obtain ⟨k, rfl⟩ : ∃ m, k = m + 1 := ⟨k - 1, by omega⟩
        rw [bellmanref28_Decode.j0, if_neg (by decide)]
        have h := ref_dec_l0 n n.toNat k (B r) [] 0 (by omega) (by omega) (by omega) rfl (by simp) (by rw [B_size]; omega)
        rw [B_toList] at h
        simp only [List.nil_append] at h
        exact h
  · obtain ⟨_, hn0, hr0⟩ := he.resolve_left c0
    rw [if_neg c0, j0t k _ _ (by omega), if_pos c0, if_neg (fun h => c0 h.1)]
end Go.Proofs.Ytgcilfpoblijnaa.XK
