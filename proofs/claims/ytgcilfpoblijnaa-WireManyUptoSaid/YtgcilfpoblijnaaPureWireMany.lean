/- For every list of numbers, list of texts and bytes within the bound: what was put is got, and what was behind it stays; what is got has its bytes. -/
import Derived.Test.YtgcilfpoblijnaaUWireMany
import Derived.Test.YtgcilfpoblijnaaQLists
set_option linter.unusedVariables false
set_option linter.unusedSimpArgs false
namespace Go.Proofs.Ytgcilfpoblijnaa.Pure
open Go.RowKit Go.Proofs.Ytgcilfpoblijnaa.XL Go.Proofs.YtgcilfpoblijnaaW.PrintWords Go.Proofs.YtgcilfpoblijnaaW.PrintLast Go.Proofs.YtgcilfpoblijnaaW.PrintMore Go.Proofs.Ytgcilfpoblijnaa.Wire
theorem listL_len {α : Type} (enc : α → List UInt8) (M : Nat) (l : List α) (h : ∀ a ∈ l, (enc a).length ≤ M) : (encAll enc l).length ≤ M * l.length := by
  induction l with
  | nil => simp [encAll]
  | cons a l ih =>
    have e : encAll enc (a :: l) = enc a ++ encAll enc l := by simp [encAll]
    have h1 := h a List.mem_cons_self
    have h2 := ih (fun b hb => h b (List.mem_cons_of_mem _ hb))
    rw [e, List.length_append, List.length_cons, Nat.mul_add]
    omega
theorem many_j1 (s : ByteArray) (hs : s.size ≤ 1048576) (k : Nat) (hk : 1060 ≤ k) : bellmanlaw01_WireMany.j1 (k + 1) s = some true := by
  rw [bellmanlaw01_WireMany.j1, get_texts_eq s k (by omega), Option.bind_some]
  rcases getListL_inv decT_inv s.data.toList with ⟨xs, r, h, hx, e, he⟩ | ⟨e, hne, h⟩
  · rw [he]
    simp only
    have a1 := texts_eq xs k (by omega)
    rw [if_pos ⟨h, ok_allT xs hx⟩] at a1
    have hl := congrArg List.length e
    rw [List.length_append, ← data_size] at hl
    rw [if_pos trivial, a1, Option.bind_some]
    simp only
    rw [if_pos trivial, B_size, B_size, if_pos (by omega), B_append, ← e, B_data, beq_self_eq_true]
  · rw [h]
    simp only
    rw [if_neg hne, if_pos (by decide), B_toL]
    rfl
theorem many_j0 (m : List ByteArray) (s : ByteArray) (hs : s.size ≤ 1048576) (k : Nat) (hk : 1070 ≤ k) : bellmanlaw01_WireMany.j0 (k + 1) m s = some true := by
  obtain ⟨q, rfl⟩ : ∃ q, k = q + 1 := ⟨k - 1, by omega⟩
  have hj := many_j1 s hs q (by omega)
  rw [bellmanlaw01_WireMany.j0, texts_eq m (q + 1) (by omega)]
  by_cases c : m.length ≤ 1024 ∧ allT m = true
  · have hx := allT_ok m c.2
    have hlen := listL_len encT 4105 m (fun a ha => encT_len a (hx a ha))
    have h8 := dig_len8 (n := (m.length : Int)) ⟨by omega, by omega⟩
    have hll : (listL encT m).length ≤ 5000000 := by
      unfold listL
      rw [List.length_append, numL_length]
      have := c.1
      have h2 : 4105 * m.length ≤ 4105 * 1024 := Nat.mul_le_mul_left _ this
      omega
    rw [if_pos c, Option.bind_some]
    simp only
    rw [if_pos trivial, B_size, if_pos (by omega), get_texts_enc m hx c.1 s (q + 1) (by omega), Option.bind_some]
    simp only
    rw [if_pos trivial, sameT_refl m (by have := c.1; omega) (q + 1) (by have := c.1; omega), Option.bind_some, if_pos rfl, if_pos trivial]
    exact hj
  · rw [if_neg c, Option.bind_some]
    simp only
    rw [if_neg (by decide)]
    exact hj
theorem WireMany : bellmanlaw01_WireMany.PureU := by
  intro l m s hl hm hb
  have hf : ∀ a ∈ l, Fits a := fun a ha => fits_of_wf (hl a ha)
  have hs : s.size ≤ 1048576 := by omega
  have hj := many_j0 m s hs 1999 (by decide)
  refine ⟨2000, ?_⟩
  unfold bellmanlaw01_WireMany.f
  rw [lists_ok 2000 (by decide), Option.bind_some, if_pos rfl, nums_eq l hf 2000 (by decide)]
  by_cases c : l.length ≤ 1024
  · have hlen := listL_len numL 9 l (fun a ha => by rw [numL_length]; have := dig_len8 (hf a ha); omega)
    have h8 := dig_len8 (n := (l.length : Int)) ⟨by omega, by omega⟩
    have hll : (listL numL l).length ≤ 100000 := by
      unfold listL
      rw [List.length_append, numL_length]
      omega
    rw [if_pos c, Option.bind_some]
    simp only
    rw [if_pos trivial, B_size, if_pos (by omega), get_nums_enc l hf c s 2000 (by decide), Option.bind_some]
    simp only
    rw [if_pos trivial, same_refl l (by omega) 2000 (by omega), Option.bind_some, if_pos rfl, if_pos trivial]
    exact hj
  · rw [if_neg c, Option.bind_some]
    simp only
    rw [if_neg (by decide)]
    exact hj
end Go.Proofs.Ytgcilfpoblijnaa.Pure
