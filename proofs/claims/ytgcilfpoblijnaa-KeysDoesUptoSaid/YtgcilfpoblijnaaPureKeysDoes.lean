/- For every list of keys, name, reply and bytes within the bound: keys are found, put, encoded and decoded as the definition says. -/
import Derived.Test.YtgcilfpoblijnaaUKeysDoes
import Derived.Test.YtgcilfpoblijnaaQKeysLives
import Derived.Test.YtgcilfpoblijnaaQKeysR
set_option linter.unusedVariables false
set_option linter.unusedSimpArgs false
namespace Go.Proofs.Ytgcilfpoblijnaa.XK
open Go.RowKit Go.Proofs.YtgcilfpoblijnaaW.PrintWords Go.Proofs.YtgcilfpoblijnaaW.PrintLast Go.Proofs.YtgcilfpoblijnaaW.PrintMore Go.Proofs.Ytgcilfpoblijnaa.Wire
theorem sum_mem {α : Type} (f : α → Nat) : ∀ (l : List α) (x : α), x ∈ l → f x ≤ (l.map f).sum
  | [], _, h => by simp at h
  | a :: l, x, h => by
    rw [List.map_cons, List.sum_cons]
    rcases List.mem_cons.mp h with rfl | h
    · omega
    · have := sum_mem f l x h
      omega
theorem putL_len (l : List S91) (name : ByteArray) (reply : Int) (h : l.length ≤ 100) : (putL l name reply).1.length ≤ 1000 := by
  unfold putL
  split
  · split
    · split
      · show l.length ≤ 1000
        omega
      · show (if _ then _ else _ : List S91).length ≤ 1000
        split
        · rw [List.length_append, List.length_drop]; simp; omega
        · rw [List.length_append]; simp; omega
    · show l.length ≤ 1000
      omega
  · simp
theorem decL_len (u : List UInt8) : (decL u).1.length ≤ 1000 := by
  unfold decL
  split
  · rename_i h
    have := h.2.1
    show (List.map mk _).length ≤ 1000
    omega
  · simp
theorem pure_KeysDoes : bellmanlaw28_KeysDoes.PureU := by
  intro l name reply s hl hr hs
  have hf : ∀ x ∈ l, Fits x.f1 := fun x hx => fits_of_wf (hl x hx).2
  have hn : ∀ x ∈ l, x.f0.size ≤ 1048576 := fun x hx => by
    have := sum_mem (fun x : S91 => (((x.f0.size + 1) + 1) + 1)) l x hx
    omega
  refine ⟨2000000, ?_⟩
  have e0 := lives_ok 2000000 (by omega)
  unfold bellmanlaw28_KeysDoes.f
  by_cases c : (l.length : Int) > 100
  · rw [if_pos c, e0, Option.bind_some]
  · have hd := decL_len s.data.toList
    have hp := putL_len l name reply (by omega)
    rw [if_neg c, find_eq l name _ (by omega), Option.bind_some, ref_find_eq l hn name _ (by omega), Option.bind_some, put_eq l name reply _ (by omega), Option.bind_some, ref_put_eq l hn name (by omega) reply _ (by omega), Option.bind_some,
      encode_eq l hf _ (by omega), Option.bind_some, ref_encode_eq l hn hf _ (by omega), Option.bind_some, decode_eq s _ (by omega), Option.bind_some, ref_decode_eq s (by omega) _ (by omega), Option.bind_some, e0, Option.bind_some,
      if_pos rfl, if_pos rfl, if_pos rfl, same_eq _ hp _ (by omega), Option.bind_some, if_pos rfl, if_pos rfl, if_pos rfl, if_pos rfl, same_eq _ hd _ (by omega), Option.bind_some, if_pos rfl, if_pos rfl, if_pos rfl,
      check_eq l _ (by omega), Option.bind_some, ref_check_eq l hn _ (by omega), Option.bind_some, if_pos rfl, name_eq name _ (by omega), Option.bind_some, ref_name_eq name (by omega) _ (by omega), Option.bind_some]
    simp
end Go.Proofs.Ytgcilfpoblijnaa.XK
namespace Go.Proofs.Ytgcilfpoblijnaa.Pure
theorem KeysDoes : XK.bellmanlaw28_KeysDoes.PureU := XK.pure_KeysDoes
end Go.Proofs.Ytgcilfpoblijnaa.Pure
