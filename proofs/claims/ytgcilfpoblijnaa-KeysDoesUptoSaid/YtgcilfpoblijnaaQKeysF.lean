-- by a program of this session
import Derived.Test.YtgcilfpoblijnaaQKey
import Derived.Test.YtgcilfpoblijnaaQWireG
import Derived.Test.YtgcilfpoblijnaaXK2
import Derived.Test.YtgcilfpoblijnaaXK3
import Derived.Test.YtgcilfpoblijnaaXK4
set_option linter.unusedVariables false
set_option linter.unusedSimpArgs false
/-! The printed functions of keys answer as the plain theory says. -/
namespace Go.Proofs.Ytgcilfpoblijnaa.XK
open Go.RowKit Go.Proofs.YtgcilfpoblijnaaW.PrintWords Go.Proofs.YtgcilfpoblijnaaW.PrintLast Go.Proofs.YtgcilfpoblijnaaW.PrintMore Go.Proofs.Ytgcilfpoblijnaa.Wire
theorem wrap_j (i : Nat) (h : i ≤ 9000000000000000000) : wrap64 ((i : Int) + 1) = ((i + 1 : Nat) : Int) := by unfold wrap64; omega
def goodB (c : UInt8) : Bool := decide (32 < c.toNat) && decide (c.toNat ≤ 126)
def nameOk (l : List UInt8) : Bool := l.all goodB && (decide (l ≠ []) && decide (l.length ≤ 32))
theorem name_l0 (s : ByteArray) (hs : s.size ≤ 32) : ∀ (m k i : Nat), i + m = s.data.toList.length → m + 1 ≤ k → keys_Name.l0 k s (s.size : Int) (i : Int) = some (if (s.data.toList.drop i).all goodB = true then 0 else 13)
  | 0, k, i, h, hk => by
    obtain ⟨k, rfl⟩ : ∃ m, k = m + 1 := ⟨k - 1, by omega⟩
    have hz := data_size s
    rw [keys_Name.l0, if_neg (by omega), List.drop_of_length_le (by omega)]
    rfl
  | m + 1, k, i, h, hk => by
    obtain ⟨k, rfl⟩ : ∃ m, k = m + 1 := ⟨k - 1, by omega⟩
    have hz := data_size s
    have hi : i < s.data.toList.length := by omega
    have ih := name_l0 s hs m k (i + 1) (by omega) (by omega)
    rw [keys_Name.l0, if_pos (by omega), if_pos (by omega), if_pos (by omega), bt_list s i hi, wrap_j i (by omega), ih, List.drop_eq_getElem_cons hi, List.all_cons]
    generalize s.data.toList[i] = c
    by_cases c1 : c.toNat ≤ 32
    · have : goodB c = false := by unfold goodB; rw [decide_eq_false (by omega)]; rfl
      rw [if_pos (by omega), this]; rfl
    · by_cases c2 : 126 < c.toNat
      · have : goodB c = false := by unfold goodB; rw [decide_eq_false (p := c.toNat ≤ 126) (by omega), Bool.and_false]
        rw [if_neg (by omega), if_pos (by omega), this]; rfl
      · have : goodB c = true := by unfold goodB; rw [decide_eq_true (by omega), decide_eq_true (by omega)]; rfl
        rw [if_neg (by omega), if_neg (by omega), this, Bool.true_and]
theorem toL_nil (s : ByteArray) : (s.toList = ([] : List UInt8)) ↔ s.data.toList = [] := by rw [ByteArray.toList_eq]
theorem name_eq (s : ByteArray) (k : Nat) (hk : 40 ≤ k) : keys_Name.f k s = some (if nameOk s.data.toList = true then 0 else 13) := by
  obtain ⟨k, rfl⟩ : ∃ m, k = m + 1 := ⟨k - 1, by omega⟩
  have hz := data_size s
  unfold keys_Name.f nameOk
  by_cases c0 : s.data.toList = []
  · rw [if_pos ((toL_nil s).mpr c0), keys_Name.j0, if_pos rfl, c0]
    rfl
  · rw [if_neg (fun h => c0 ((toL_nil s).mp h)), keys_Name.j0]
    by_cases c1 : s.size ≤ 32
    · have h := name_l0 s c1 s.data.toList.length k 0 (by omega) (by omega)
      rw [decide_eq_false (by omega), if_neg (by decide), decide_eq_true c0, decide_eq_true (by omega)]
      simp only [Bool.and_self, Bool.and_true]
      exact h
    · rw [decide_eq_true (by omega), if_pos rfl, decide_eq_false (p := s.data.toList.length ≤ 32) (by omega), Bool.and_false, Bool.and_false]
      rfl
theorem le_of {α : Type} (f : Nat → Option α) (h : ∀ k, LeO (f k) (f (k + 1))) {a : α} {k : Nat} (hk : f k = some a) : ∀ m, f (k + m) = some a
  | 0 => hk
  | m + 1 => h _ _ (le_of f h hk m)
/-! ### A list of keys -/
def nm (x : S91) : List UInt8 := x.f0.data.toList
def okL (l : List S91) : Prop := l.length ≤ 32 ∧ (∀ x ∈ l, nameOk (nm x) = true) ∧ (l.map nm).Nodup
instance (l : List S91) : Decidable (okL l) := by unfold okL; infer_instance
def goodAt (l : List S91) (j : Nat) (h : j < l.length) : Prop := nameOk (nm l[j]) = true ∧ nm l[j] ∉ (l.take j).map nm
def findK (name : List UInt8) : List S91 → Int × Int
  | [] => (0, 3)
  | x :: l => if nm x = name then (x.f1, 0) else findK name l
theorem rd_eq (l : List S91) (i : Nat) (h : i < l.length) : rd_T91 l (i : Int) = l[i] := by
  unfold rd_T91
  rw [Int.toNat_natCast, List.getD_eq_getElem?_getD, List.getElem?_eq_getElem h]
  rfl
theorem tl_iff (a b : ByteArray) : a.toList = b.toList ↔ a.data.toList = b.data.toList := by rw [ByteArray.toList_eq, ByteArray.toList_eq]
theorem ix_spec (name : ByteArray) : ∀ (l : List S91) (i : Nat), (keys_at.ix name i l = -1 ∧ name.data.toList ∉ l.map nm ∧ findK name.data.toList l = (0, 3)) ∨
    ∃ (j : Nat) (h : j < l.length), keys_at.ix name i l = ((i + j : Nat) : Int) ∧ nm l[j] = name.data.toList ∧ name.data.toList ∉ (l.take j).map nm ∧ findK name.data.toList l = (l[j].f1, 0)
  | [], i => .inl ⟨rfl, by simp, rfl⟩
  | x :: l, i => by
    by_cases c : nm x = name.data.toList
    · refine .inr ⟨0, by simp, ?_, c, by simp, by simp only [findK, if_pos c, List.getElem_cons_zero]⟩
      rw [keys_at.ix, if_pos ((tl_iff _ _).mpr c)]
      simp
    · have e : keys_at.ix name i (x :: l) = keys_at.ix name (i + 1) l := by rw [keys_at.ix, if_neg (fun h => c ((tl_iff _ _).mp h))]
      have ef : findK name.data.toList (x :: l) = findK name.data.toList l := by simp only [findK, if_neg c]
      have c' : ¬ name.data.toList = nm x := fun h => c h.symm
      rcases ix_spec name l (i + 1) with ⟨h1, h2, h3⟩ | ⟨j, h, h1, h2, h3, h4⟩
      · refine .inl ⟨by rw [e, h1], ?_, by rw [ef, h3]⟩
        rw [List.map_cons, List.mem_cons]
        exact fun h => h.elim c' h2
      · refine .inr ⟨j + 1, by simp only [List.length_cons]; omega, ?_, by simpa using h2, ?_, ?_⟩
        · rw [e, h1]; omega
        · rw [List.take_succ_cons, List.map_cons, List.mem_cons]
          exact fun h => h.elim c' h3
        · rw [ef, h4]; simp
theorem at_iff (l : List S91) (j : Nat) (h : j < l.length) : keys_at.ix l[j].f0 0 l = (j : Int) ↔ nm l[j] ∉ (l.take j).map nm := by
  have hin : (l[j]).f0.data.toList ∈ l.map nm := List.mem_map.mpr ⟨l[j], List.getElem_mem h, rfl⟩
  rcases ix_spec l[j].f0 l 0 with ⟨_, h2, _⟩ | ⟨i, hi, h1, h2, h3, _⟩
  · exact absurd hin h2
  · rw [h1]
    constructor
    · intro e
      have : i = j := by omega
      subst this; exact h3
    · intro hn
      by_cases c : i < j
      · refine absurd ?_ hn
        rw [show nm l[j] = nm l[i] from h2.symm]
        exact List.mem_map.mpr ⟨l[i], List.mem_take_iff_getElem.mpr ⟨i, by omega, rfl⟩, rfl⟩
      · by_cases c2 : j < i
        · refine absurd ?_ h3
          exact List.mem_map.mpr ⟨l[j], List.mem_take_iff_getElem.mpr ⟨j, by omega, rfl⟩, rfl⟩
        · omega
theorem okL_iff (l : List S91) : okL l ↔ l.length ≤ 32 ∧ ∀ (j : Nat) (h : j < l.length), goodAt l j h := by
  unfold okL goodAt
  constructor
  · rintro ⟨h1, h2, h3⟩
    refine ⟨h1, fun j h => ⟨h2 _ (List.getElem_mem h), fun hm => ?_⟩⟩
    obtain ⟨x, hx, e⟩ := List.mem_map.mp hm
    obtain ⟨i, hi, rfl⟩ := List.mem_take_iff_getElem.mp hx
    have hp := List.pairwise_iff_getElem.mp h3 i j (by rw [List.length_map]; omega) (by rw [List.length_map]; omega) (by omega)
    rw [List.getElem_map, List.getElem_map] at hp
    exact hp e
  · rintro ⟨h1, h2⟩
    refine ⟨h1, fun x hx => ?_, List.pairwise_iff_getElem.mpr fun i j hi hj hij => ?_⟩
    · obtain ⟨j, hj, rfl⟩ := List.getElem_of_mem hx
      exact (h2 j hj).1
    · rw [List.length_map] at hi hj
      rw [List.getElem_map, List.getElem_map]
      intro e
      refine (h2 j hj).2 (List.mem_map.mpr ⟨l[i], List.mem_take_iff_getElem.mpr ⟨i, by omega, rfl⟩, e⟩)
theorem check_l0 (l : List S91) (h32 : l.length ≤ 32) : ∀ (m k i : Nat), i + m = l.length → m + 42 ≤ k →
    (keys_Check.l0 k l l (l.length : Int) (i : Int) = some 0 ∧ ∀ (j : Nat) (h : j < l.length), i ≤ j → goodAt l j h) ∨ (keys_Check.l0 k l l (l.length : Int) (i : Int) = some 2 ∧ ∃ (j : Nat) (h : j < l.length), ¬ goodAt l j h)
  | 0, k, i, h, hk => by
    obtain ⟨k, rfl⟩ : ∃ m, k = m + 1 := ⟨k - 1, by omega⟩
    rw [keys_Check.l0, if_neg (by omega)]
    exact .inl ⟨rfl, fun j hj hij => by omega⟩
  | m + 1, k, i, h, hk => by
    obtain ⟨k, rfl⟩ : ∃ m, k = m + 1 := ⟨k - 1, by omega⟩
    have hi : i < l.length := by omega
    have hn := name_eq l[i].f0 k (by omega)
    rw [keys_Check.l0, if_pos (by omega), if_pos (by omega), if_pos (by omega), rd_eq l i hi, hn, Option.bind_some]
    by_cases c1 : nameOk l[i].f0.data.toList = true
    · rw [if_pos c1, if_pos rfl]
      unfold keys_at.f
      rw [Option.bind_some]
      by_cases c2 : keys_at.ix l[i].f0 0 l = (i : Int)
      · rw [if_pos c2, wrap_j i (by omega)]
        rcases check_l0 l h32 m k (i + 1) (by omega) (by omega) with ⟨h1, h2⟩ | ⟨h1, h2⟩
        · refine .inl ⟨h1, fun j hj hij => ?_⟩
          by_cases e : i = j
          · subst e; exact ⟨c1, (at_iff l i hi).mp c2⟩
          · exact h2 j hj (by omega)
        · exact .inr ⟨h1, h2⟩
      · rw [if_neg c2]
        exact .inr ⟨rfl, i, hi, fun hg => c2 ((at_iff l i hi).mpr hg.2)⟩
    · rw [if_neg c1, if_neg (by decide)]
      exact .inr ⟨rfl, i, hi, fun hg => c1 hg.1⟩
theorem check_eq (l : List S91) (k : Nat) (hk : 80 ≤ k) : keys_Check.f k l = some (if okL l then 0 else 2) := by
  unfold keys_Check.f
  by_cases c : l.length ≤ 32
  · rw [if_neg (by omega)]
    rcases check_l0 l c l.length k 0 (by omega) (by omega) with ⟨h1, h2⟩ | ⟨h1, j, hj, h2⟩
    · rw [if_pos ((okL_iff l).mpr ⟨c, fun j h => h2 j h (Nat.zero_le _)⟩)]
      exact h1
    · rw [if_neg (fun h => h2 (((okL_iff l).mp h).2 j hj))]
      exact h1
  · rw [if_pos (by omega), if_neg (fun h => c h.1)]
theorem find_eq (l : List S91) (name : ByteArray) (k : Nat) (hk : 80 ≤ k) : keys_Find.f k l name = some (if okL l then findK name.data.toList l else (0, 2)) := by
  unfold keys_Find.f
  rw [check_eq l k hk, Option.bind_some]
  by_cases c : okL l
  · rw [if_pos c, if_pos rfl, if_pos c]
    unfold keys_at.f
    rw [Option.bind_some]
    rcases ix_spec name l 0 with ⟨h1, _, h3⟩ | ⟨j, h, h1, h2, h3, h4⟩
    · rw [h1, if_pos (by decide), h3]
    · rw [h1, if_neg (by omega), if_pos (by omega), if_pos (by omega), h4]
      rw [show ((0 + j : Nat) : Int) = (j : Int) by omega, rd_eq l j h]
  · rw [if_neg c, if_neg (by decide), if_neg c]
def putL (l : List S91) (name : ByteArray) (reply : Int) : List S91 × Int :=
  if okL l then (if nameOk name.data.toList = true then (if name.data.toList ∈ l.map nm then (l, 4) else (if l.length = 32 then l.drop 1 ++ [⟨name, reply⟩] else l ++ [⟨name, reply⟩], 0)) else (l, 13)) else ([], 2)
theorem put_eq (l : List S91) (name : ByteArray) (reply : Int) (k : Nat) (hk : 80 ≤ k) : keys_Put.f k l name reply = some (putL l name reply) := by
  unfold keys_Put.f putL
  rw [check_eq l k hk, Option.bind_some]
  by_cases c : okL l
  · have h32 : l.length ≤ 32 := c.1
    rw [if_pos c, if_pos rfl, if_pos c]
    unfold slices_CloneK.f
    rw [if_pos (by omega), Option.bind_some, name_eq name k (by omega), Option.bind_some]
    by_cases c1 : nameOk name.data.toList = true
    · rw [if_pos c1, if_pos rfl, if_pos c1]
      unfold keys_at.f
      rw [Option.bind_some]
      rcases ix_spec name l 0 with ⟨h1, h2, h3⟩ | ⟨j, h, h1, h2, h3, h4⟩
      · rw [h1, if_neg (by decide), if_neg h2]
        by_cases c3 : l.length = 32
        · rw [if_pos c3, if_pos c3]
        · rw [if_neg c3, if_neg c3]
      · rw [h1, if_pos (by omega), if_pos (List.mem_map.mpr ⟨l[j], List.getElem_mem h, h2⟩)]
    · rw [if_neg c1, if_neg (by decide), if_neg c1]
  · rw [if_neg c, if_neg (by decide), if_neg c]
/-! ### Their bytes -/
def pr (x : S91) : ByteArray × Int := (x.f0, x.f1)
def mk (p : ByteArray × Int) : S91 := ⟨p.1, p.2⟩
theorem mk_pr (l : List S91) : (l.map pr).map mk = l := by rw [List.map_map]; exact List.map_id' l
theorem pr_mk (l : List (ByteArray × Int)) : (l.map mk).map pr = l := by rw [List.map_map]; exact List.map_id' l
def us (b : List Int) : List UInt8 := b.map (fun x => UInt8.ofNat x.toNat)
theorem us_append (a b : List Int) : us (a ++ b) = us a ++ us b := List.map_append
theorem us_bytes (s : ByteArray) : us (bytesOf s) = s.data.toList := by
  unfold us bytesOf
  rw [List.map_map]
  exact (List.map_congr_left (g := id) (fun c _ => by simp)).trans (List.map_id _)
theorem str_us (b : List Int) : strOfNums b = B (us b) := rfl
theorem put_len (n : Int) (hn : Fits n) : (wire_Put.bytes n).length ≤ 9 := by
  have h := congrArg List.length (put_bytes n hn)
  rw [List.length_map, numL_length] at h
  have := dig_len8 hn
  omega
theorem wput_eq (b : List Int) (n : Int) (hn : Fits n) (hb : b.length ≤ 1000000) : wire_Put.f b n = some (b ++ wire_Put.bytes n) := by
  unfold wire_Put.f
  rw [if_pos ⟨hn.1, hn.2, by omega⟩]
theorem enc_go : ∀ (l : List S91) (b : List Int), (∀ x ∈ l, (nm x).length ≤ 32 ∧ Fits x.f1) → b.length + 100 * l.length ≤ 10000 → ∃ b', keys_Encode.go b l = some b' ∧ us b' = us b ++ encAll encK (l.map pr)
  | [], b, _, _ => ⟨b, rfl, by simp [encAll]⟩
  | x :: l, b, hx, hb => by
    obtain ⟨h1, h2⟩ := hx x List.mem_cons_self
    have hsz : x.f0.size = (nm x).length := data_size x.f0
    have hf : Fits (x.f0.size : Int) := ⟨by omega, by omega⟩
    have hl := put_len _ hf
    have hl2 := put_len _ h2
    rw [List.length_cons] at hb
    have hbl : (bytesOf x.f0).length = x.f0.size := by
      have h := congrArg List.length (us_bytes x.f0)
      unfold us at h
      rw [List.length_map] at h
      rw [h, data_size]
    obtain ⟨b', e1, e2⟩ := enc_go l (b ++ wire_Put.bytes (x.f0.size : Int) ++ bytesOf x.f0 ++ wire_Put.bytes x.f1) (fun y hy => hx y (List.mem_cons_of_mem _ hy)) (by
      rw [List.length_append, List.length_append, List.length_append, hbl]; omega)
    refine ⟨b', ?_, ?_⟩
    · rw [keys_Encode.go, wput_eq b _ hf (by omega), Option.bind_some, if_pos (by rw [List.length_append]; omega), wput_eq _ _ h2 (by rw [List.length_append, List.length_append, hbl]; omega), Option.bind_some]
      exact e1
    · have p1 : us (wire_Put.bytes (x.f0.size : Int)) = numL (x.f0.size : Int) := put_bytes _ hf
      have p2 : us (wire_Put.bytes x.f1) = numL x.f1 := put_bytes _ h2
      rw [e2, us_append, us_append, us_append, us_bytes, p1, p2, data_size]
      simp [encAll, encK, encT, textL, pr, List.append_assoc]
def encL (l : List S91) : List UInt8 := listL encK (l.map pr)
theorem nameOk_len {l : List UInt8} (h : nameOk l = true) : l.length ≤ 32 := by
  unfold nameOk at h
  simp only [Bool.and_eq_true, decide_eq_true_eq] at h
  exact h.2.2
theorem encode_eq (l : List S91) (hf : ∀ x ∈ l, Fits x.f1) (k : Nat) (hk : 80 ≤ k) : keys_Encode.f k l = some (if okL l then (B (encL l), 0) else (B [], 2)) := by
  unfold keys_Encode.f
  rw [check_eq l k hk, Option.bind_some]
  by_cases c : okL l
  · have h32 : l.length ≤ 32 := c.1
    have hl : Fits (l.length : Int) := ⟨by omega, by omega⟩
    have hl9 := put_len _ hl
    rw [if_pos c, if_pos rfl, if_pos c, wput_eq [] _ hl (by simp), Option.bind_some, List.nil_append]
    obtain ⟨b', e1, e2⟩ := enc_go l (wire_Put.bytes (l.length : Int)) (fun x hx => ⟨nameOk_len (c.2.1 x hx), hf x hx⟩) (by omega)
    rw [e1, Option.bind_some, str_us, e2]
    have p1 : us (wire_Put.bytes (l.length : Int)) = numL (l.length : Int) := put_bytes _ hl
    rw [p1]
    unfold encL listL
    rw [List.length_map]
  · rw [if_neg c, if_neg (by decide), if_neg c]
    rfl
theorem rd_num (s : ByteArray) : ∃ s1, wire_Reader_Num.f s 0 = some ((getL s.data.toList).1, s1, (getL s.data.toList).2.2) ∧ ((getL s.data.toList).2.2 = 0 → s1 = B (getL s.data.toList).2.1) := by
  unfold wire_Reader_Num.f
  rw [if_pos rfl, get_eq, Option.bind_some]
  exact ⟨_, rfl, fun _ => rfl⟩
theorem rd_text (s : ByteArray) (k : Nat) (hk : 1 ≤ k) : ∃ s1, wire_Reader_Text.f k s 0 = some ((decT s.data.toList).1, s1, (decT s.data.toList).2.2) ∧ ((decT s.data.toList).2.2 = 0 → s1 = B (decT s.data.toList).2.1) := by
  have h := get_text_eq s k hk
  unfold wire_GetText.f at h
  obtain ⟨⟨t, s1, y1⟩, h1, h⟩ := Option.bind_eq_some_iff.mp h
  obtain ⟨⟨q, y2, s3, y3⟩, h2, h⟩ := Option.bind_eq_some_iff.mp h
  simp only [Option.some.injEq, Prod.mk.injEq] at h
  obtain ⟨e1, e2, e3⟩ := h
  unfold decT
  simp only
  rw [h1, e1]
  unfold wire_Reader_rest.f at h2
  simp only at h2
  by_cases c : y1 = 0
  · rw [if_pos c] at h2
    simp only [Option.some.injEq, Prod.mk.injEq] at h2
    obtain ⟨f1, f2, _⟩ := h2
    refine ⟨s1, by rw [← e3, ← f2, c], fun _ => by rw [← e2, ← f1]⟩
  · rw [if_neg c] at h2
    simp only [Option.some.injEq, Prod.mk.injEq] at h2
    obtain ⟨f1, f2, _⟩ := h2
    refine ⟨s1, by rw [← e3, ← f2], fun h0 => ?_⟩
    rw [← e3, ← f2] at h0
    exact absurd h0 c
theorem one_eq (s : ByteArray) (k : Nat) (hk : 1 ≤ k) : ∃ x s1, keys_one.f k s 0 = some (x, s1, (decK s.data.toList).2.2) ∧ ((decK s.data.toList).2.2 = 0 → x = mk (decK s.data.toList).1 ∧ s1 = B (decK s.data.toList).2.1) := by
  unfold keys_one.f
  obtain ⟨s1, h1, h2⟩ := rd_text s k hk
  rw [h1, Option.bind_some]
  simp only
  unfold decK
  by_cases c : (decT s.data.toList).2.2 = 0
  · rw [if_pos c, c, h2 c]
    obtain ⟨s2, g1, g2⟩ := rd_num (B (decT s.data.toList).2.1)
    rw [B_toList] at g1 g2
    rw [g1, Option.bind_some]
    simp only
    by_cases c2 : (getL (decT s.data.toList).2.1).2.2 = 0
    · rw [if_pos c2, c2]
      exact ⟨_, _, rfl, fun _ => ⟨rfl, g2 c2⟩⟩
    · rw [if_neg c2]
      exact ⟨_, _, rfl, fun h => absurd h c2⟩
  · rw [if_neg c]
    unfold wire_Reader_Num.f
    rw [if_neg c, Option.bind_some]
    exact ⟨_, _, rfl, fun h => absurd h c⟩
theorem takeN_failK (n : Nat) (l : List UInt8) (h : (takeN decK n l).2.2 ≠ 0) : takeN decK n l = ([], [], (takeN decK n l).2.2) := by
  rcases takeN_inv decK_inv n l with ⟨xs, r, _, _, _, e⟩ | ⟨e, _, he⟩
  · rw [e] at h; exact absurd rfl h
  · rw [he]
theorem listK_l0 (n : Int) : ∀ (m k : Nat) (s : ByteArray) (out : List S91) (i : Nat), ((i + m : Nat) : Int) = n → i + m ≤ 1024 → m + 2 ≤ k → out.length = i →
    ∃ s', wire_ListK.l0 k n s 0 out (i : Int) = some (if (takeN decK m s.data.toList).2.2 = 0 then out ++ (takeN decK m s.data.toList).1.map mk else [], s', (takeN decK m s.data.toList).2.2) ∧ ((takeN decK m s.data.toList).2.2 = 0 → s' = B (takeN decK m s.data.toList).2.1)
  | 0, k, s, out, i, h, h2, hk, ho => by
    obtain ⟨k, rfl⟩ : ∃ m, k = m + 1 := ⟨k - 1, by omega⟩
    rw [wire_ListK.l0, if_neg (by omega)]
    refine ⟨s, ?_, fun _ => ?_⟩
    · simp [takeN]
    · simp [takeN, B_data]
  | m + 1, k, s, out, i, h, h2, hk, ho => by
    obtain ⟨k, rfl⟩ : ∃ m, k = m + 1 := ⟨k - 1, by omega⟩
    obtain ⟨x, s1, hr, hs1⟩ := one_eq s k (by omega)
    have ht : takeN decK (m + 1) s.data.toList = if (decK s.data.toList).2.2 = 0 then (if (takeN decK m (decK s.data.toList).2.1).2.2 = 0 then ((decK s.data.toList).1 :: (takeN decK m (decK s.data.toList).2.1).1, (takeN decK m (decK s.data.toList).2.1).2.1, 0) else ([], [], (takeN decK m (decK s.data.toList).2.1).2.2)) else ([], [], (decK s.data.toList).2.2) := rfl
    rw [wire_ListK.l0, if_pos (by omega), hr, Option.bind_some, ht]
    simp only
    by_cases hd : (decK s.data.toList).2.2 = 0
    · obtain ⟨rfl, rfl⟩ := hs1 hd
      rw [if_pos hd, if_pos (by omega), if_pos hd, wrap_j i (by omega), hd]
      obtain ⟨s', e1, e2⟩ := listK_l0 n m k (B (decK s.data.toList).2.1) (out ++ [mk (decK s.data.toList).1]) (i + 1) (by omega) (by omega) (by omega) (by simp [ho])
      rw [B_toList] at e1 e2
      refine ⟨s', ?_, ?_⟩
      · rw [e1]
        by_cases hq : (takeN decK m (decK s.data.toList).2.1).2.2 = 0
        · rw [if_pos hq, if_pos hq]
          simp [hq]
        · rw [if_neg hq, if_neg hq]
          simp [hq]
      · intro h0
        by_cases hq : (takeN decK m (decK s.data.toList).2.1).2.2 = 0
        · rw [if_pos hq]; exact e2 hq
        · rw [if_neg hq] at h0; exact absurd h0 hq
    · rw [if_neg hd, if_neg hd]
      refine ⟨s1, ?_, fun h0 => absurd h0 hd⟩
      simp [hd]
theorem list_eq (s : ByteArray) (k : Nat) (hk : 1030 ≤ k) : ∃ xs s1 e, wire_ListK.f k s 0 = some (xs, s1, e) ∧ (e = 0 ↔ (getListL decK s.data.toList).2.2 = 0) ∧ (e = 0 → xs = (getListL decK s.data.toList).1.map mk ∧ s1 = B (getListL decK s.data.toList).2.1) := by
  unfold wire_ListK.f wire_Reader_Many.f wire_Reader_Num.f getListL
  rw [if_pos rfl, get_eq, Option.bind_some]
  have he := getL_err s.data.toList
  generalize getL s.data.toList = q at he ⊢
  obtain ⟨n, r, e⟩ := q
  simp only [Option.bind_some] at he ⊢
  have stop : ∀ (s' : ByteArray) (y : Int), wire_ListK.l0 k 0 s' y [] 0 = some ([], s', y) := by
    intro s' y
    obtain ⟨k, rfl⟩ : ∃ m, k = m + 1 := ⟨k - 1, by omega⟩
    rw [wire_ListK.l0, if_neg (by decide)]
  by_cases c0 : e = 0
  · have c0' : ¬ (e ≠ 0) := fun h => h c0
    rw [if_neg c0']
    by_cases c1 : n < 0
    · rw [if_pos c1, if_pos c1]
      simp only [Option.bind_some]
      rw [stop]
      exact ⟨_, _, _, rfl, ⟨fun h => absurd h (by decide), fun h => absurd h (by decide)⟩, fun h => absurd h (by decide)⟩
    rw [if_neg c1, if_neg c1]
    by_cases c2 : 1024 < n
    · rw [if_pos c2, if_pos c2]
      simp only [Option.bind_some]
      rw [stop]
      exact ⟨_, _, _, rfl, ⟨fun h => absurd h (by decide), fun h => absurd h (by decide)⟩, fun h => absurd h (by decide)⟩
    rw [if_neg c2, if_neg c2, if_pos c0]
    simp only [Option.bind_some]
    obtain ⟨s', e1, e2⟩ := listK_l0 n n.toNat k (B r) [] 0 (by omega) (by omega) (by omega) rfl
    rw [B_toList] at e1 e2
    rw [c0]
    replace e1 : wire_ListK.l0 k n (B r) 0 [] (0 : Int) = _ := e1
    rw [e1]
    refine ⟨_, _, _, rfl, Iff.rfl, fun h => ⟨?_, e2 h⟩⟩
    rw [if_pos h]; rfl
  · obtain ⟨_, hn0, hr0⟩ := he.resolve_left c0
    rw [if_pos c0, hn0, if_neg (by decide), if_neg (by decide), if_neg c0]
    simp only [Option.bind_some]
    rw [stop]
    exact ⟨_, _, _, rfl, Iff.rfl, fun h => absurd h c0⟩
def decL (u : List UInt8) : List S91 × ByteArray × Int := if (getListL decK u).2.2 = 0 ∧ okL ((getListL decK u).1.map mk) then ((getListL decK u).1.map mk, B (getListL decK u).2.1, 0) else ([], B [], 7)
theorem decode_eq (s : ByteArray) (k : Nat) (hk : 1030 ≤ k) : keys_Decode.f k s = some (decL s.data.toList) := by
  unfold keys_Decode.f decL
  obtain ⟨xs, s1, e, h1, h2, h3⟩ := list_eq s k hk
  rw [h1, Option.bind_some]
  simp only
  by_cases c : e = 0
  · obtain ⟨rfl, rfl⟩ := h3 c
    rw [if_pos c, check_eq _ k (by omega), Option.bind_some]
    by_cases c2 : okL ((getListL decK s.data.toList).1.map mk)
    · rw [if_pos c2, if_pos rfl, if_pos ⟨h2.mp c, c2⟩]
    · rw [if_neg c2, if_neg (by decide), if_neg (fun h => c2 h.2)]
      rfl
  · rw [if_neg c, if_neg (fun h => c (h2.mpr h.1))]
    rfl
theorem same_l0 (l : List S91) (hl : l.length ≤ 1000) : ∀ (m k i : Nat), i + m = l.length → m + 1 ≤ k → bellmanref28_Same.l0 k l l (l.length : Int) (i : Int) = some true
  | 0, k, i, h, hk => by
    obtain ⟨k, rfl⟩ : ∃ m, k = m + 1 := ⟨k - 1, by omega⟩
    rw [bellmanref28_Same.l0, if_neg (by omega)]
  | m + 1, k, i, h, hk => by
    obtain ⟨k, rfl⟩ : ∃ m, k = m + 1 := ⟨k - 1, by omega⟩
    rw [bellmanref28_Same.l0, if_pos (by omega), if_pos (by omega), if_pos (by omega), if_pos (by omega), if_neg (by simp), wrap_j i (by omega)]
    exact same_l0 l hl m k (i + 1) (by omega) (by omega)
theorem same_eq (l : List S91) (hl : l.length ≤ 1000) (k : Nat) (hk : 1010 ≤ k) : bellmanref28_Same.f k l l = some true := by
  unfold bellmanref28_Same.f
  rw [if_pos rfl]
  exact same_l0 l hl l.length k 0 (by omega) (by omega)
end Go.Proofs.Ytgcilfpoblijnaa.XK
