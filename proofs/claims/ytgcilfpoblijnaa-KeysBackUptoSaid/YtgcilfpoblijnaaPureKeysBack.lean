/- For every list of keys and bytes within the bound: what is encoded is decoded, and what was behind it stays; what is decoded is right, and has its bytes. -/
import Derived.Test.YtgcilfpoblijnaaUKeysBack
import Derived.Test.YtgcilfpoblijnaaQKeysLives
set_option linter.unusedVariables false
set_option linter.unusedSimpArgs false
namespace Go.Proofs.Ytgcilfpoblijnaa.XK
open Go.RowKit Go.Proofs.YtgcilfpoblijnaaW.PrintWords Go.Proofs.YtgcilfpoblijnaaW.PrintLast Go.Proofs.YtgcilfpoblijnaaW.PrintMore Go.Proofs.Ytgcilfpoblijnaa.Wire
theorem okK_inv (u : List UInt8) : (∃ l r, okL l ∧ (∀ x ∈ l, Fits x.f1) ∧ u = encL l ++ r ∧ decL u = (l, B r, 0)) ∨ decL u = ([], B [], 7) := by
  unfold decL
  by_cases c : (getListL decK u).2.2 = 0 ∧ okL ((getListL decK u).1.map mk)
  · rw [if_pos c]
    rcases getListL_inv decK_inv u with ⟨xs, r, _, hx, e, h⟩ | ⟨e, he, h⟩
    · rw [h] at c ⊢
      refine .inl ⟨xs.map mk, r, c.2, fun x hx' => ?_, ?_, rfl⟩
      · obtain ⟨p, hp, rfl⟩ := List.mem_map.mp hx'
        exact (hx p hp).2
      · unfold encL
        rw [pr_mk]; exact e
    · rw [h] at c; exact absurd c.1 he
  · rw [if_neg c]; exact .inr rfl
theorem dec_enc (l : List S91) (r : List UInt8) (hl : okL l) (hf : ∀ x ∈ l, Fits x.f1) : decL (encL l ++ r) = (l, B r, 0) := by
  have h32 : l.length ≤ 32 := hl.1
  have h : getListL decK (encL l ++ r) = (l.map pr, r, 0) := getListL_enc decK_enc (l.map pr) r (by rw [List.length_map]; omega) (fun a ha => by
    obtain ⟨x, hx, rfl⟩ := List.mem_map.mp ha
    have := nameOk_len (hl.2.1 x hx)
    exact ⟨show (nm x).length ≤ 4096 by omega, hf x hx⟩)
  unfold decL
  rw [h]
  simp only
  rw [mk_pr, if_pos ⟨True.intro, hl⟩]
theorem encAll_len (l : List S91) (hx : ∀ x ∈ l, (nm x).length ≤ 32 ∧ Fits x.f1) : (encAll encK (l.map pr)).length ≤ 100 * l.length := by
  induction l with
  | nil => simp [encAll]
  | cons x l ih =>
    have h := ih (fun y hy => hx y (List.mem_cons_of_mem _ hy))
    obtain ⟨h1, h2⟩ := hx x List.mem_cons_self
    have e : encAll encK ((x :: l).map pr) = numL ((nm x).length : Int) ++ (nm x) ++ numL x.f1 ++ encAll encK (l.map pr) := by
      simp [encAll, encK, encT, textL, pr, nm]
    have h3 := dig_len8 (n := ((nm x).length : Int)) ⟨by omega, by omega⟩
    have h4 := dig_len8 h2
    rw [e, List.length_append, List.length_append, List.length_append, numL_length, numL_length, List.length_cons]
    omega
theorem encL_len (l : List S91) (hl : okL l) (hf : ∀ x ∈ l, Fits x.f1) : (encL l).length ≤ 4000 := by
  have h := encAll_len l (fun x hx => ⟨nameOk_len (hl.2.1 x hx), hf x hx⟩)
  have h32 : l.length ≤ 32 := hl.1
  have h3 := dig_len8 (n := (l.length : Int)) ⟨by omega, by omega⟩
  unfold encL listL
  rw [List.length_append, List.length_map, numL_length]
  omega
theorem back_j0 (s : ByteArray) (hs : s.size ≤ 1048576) (k : Nat) (hk : 2000 ≤ k) : bellmanlaw28_KeysBack.j0 k s = some true := by
  obtain ⟨k, rfl⟩ : ∃ m, k = m + 1 := ⟨k - 1, by omega⟩
  rw [bellmanlaw28_KeysBack.j0, decode_eq s k (by omega), Option.bind_some]
  rcases okK_inv s.data.toList with ⟨l, r, hl, hf, e, h⟩ | h
  · rw [h]
    simp only
    rw [if_pos True.intro, encode_eq l hf k (by omega), if_pos hl, Option.bind_some, check_eq l k (by omega), if_pos hl, Option.bind_some]
    simp only
    have he := encL_len l hl hf
    have hz := data_size s
    have hz2 := congrArg List.length e
    rw [List.length_append] at hz2
    rw [if_pos True.intro, if_pos True.intro, B_size, B_size, if_pos (by omega), B_append, ← e, B_data]
    simp
  · rw [h]
    simp only
    rw [if_neg (by decide), if_pos (by rfl)]
    simp [ByteArray.toList_eq, B]
theorem pure_KeysBack : bellmanlaw28_KeysBack.PureU := by
  intro l s hl hs
  have hf : ∀ x ∈ l, Fits x.f1 := fun x hx => fits_of_wf (hl x hx).2
  refine ⟨3000, ?_⟩
  unfold bellmanlaw28_KeysBack.f
  rw [lives_ok 3000 (by omega), Option.bind_some, if_pos rfl, encode_eq l hf 3000 (by omega), Option.bind_some]
  by_cases c : okL l
  · have he := encL_len l c hf
    rw [if_pos c]
    simp only
    rw [if_pos True.intro, B_size, if_pos (by omega), decode_eq _ 3000 (by omega), Option.bind_some]
    have e : B (encL l) ++ s = B (encL l ++ s.data.toList) := by rw [← B_append, B_data]
    rw [e, B_toList, dec_enc l _ c hf]
    simp only
    rw [if_pos True.intro, same_eq l (by have := c.1; omega) 3000 (by omega), Option.bind_some, if_pos rfl, B_data, if_pos rfl]
    exact back_j0 s (by omega) 3000 (by omega)
  · rw [if_neg c]
    simp only
    rw [if_neg (by decide)]
    exact back_j0 s (by omega) 3000 (by omega)
end Go.Proofs.Ytgcilfpoblijnaa.XK
namespace Go.Proofs.Ytgcilfpoblijnaa.Pure
theorem KeysBack : XK.bellmanlaw28_KeysBack.PureU := XK.pure_KeysBack
end Go.Proofs.Ytgcilfpoblijnaa.Pure
