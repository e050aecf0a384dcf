-- by a program of this session
import Derived.Test.YtlnadfhhgcpkpaaQWeekR
set_option linter.unusedVariables false
set_option linter.unusedSimpArgs false
/-! Minutes that are turned one by one. -/
namespace Go.Proofs.Ytlnadfhhgcpkpaa.XW
open Go.RowKit Go.Proofs.YtlnadfhhgcpkpaaW.PrintWords Go.Proofs.YtlnadfhhgcpkpaaW.PrintLast Go.Proofs.YtlnadfhhgcpkpaaW.PrintMore Go.Proofs.Ytlnadfhhgcpkpaa.Wk
def upd (g : Nat → Bool → Bool) : List Bool → Nat → Nat → List Bool
  | M, _, 0 => M
  | M, i, m + 1 => upd g (M.set i (g i (M.getD i false))) (i + 1) m
theorem upd_len (g : Nat → Bool → Bool) (m : Nat) : ∀ (M : List Bool) (i : Nat), (upd g M i m).length = M.length := by
  induction m with
  | zero => intro M i; rfl
  | succ m ih => intro M i; show (upd g (M.set i _) (i + 1) m).length = _; rw [ih, List.length_set]
theorem upd_get (g : Nat → Bool → Bool) (m : Nat) : ∀ (M : List Bool) (i j : Nat), i + m ≤ M.length → (upd g M i m).getD j false = if i ≤ j ∧ j < i + m then g j (M.getD j false) else M.getD j false := by
  induction m with
  | zero =>
    intro M i j _
    rw [if_neg (by omega)]
    rfl
  | succ m ih =>
    intro M i j h
    show (upd g (M.set i (g i (M.getD i false))) (i + 1) m).getD j false = _
    rw [ih _ _ _ (by rw [List.length_set]; omega), getD_set _ _ _ _ (by omega)]
    by_cases c : i = j
    · subst c
      rw [if_neg (by omega), if_pos rfl, if_pos (by omega)]
    · rw [if_neg c]
      by_cases d : i ≤ j ∧ j < i + (m + 1)
      · rw [if_pos d, if_pos (by omega)]
      · rw [if_neg d, if_neg (by omega)]
theorem set_self (M : List Bool) (i : Nat) (h : i < M.length) : M.set i (M.getD i false) = M := by
  rw [List.getD_eq_getElem?_getD, List.getElem?_eq_getElem h]
  exact List.set_getElem_self h
theorem rdOf_nat (M : List Bool) (i : Nat) : rdOf false M (i : Int) = M.getD i false := by
  unfold rdOf
  rw [Int.toNat_natCast]
theorem had_wk (l : List Sg) (hr : rightB l = true) (m : Int) (h : had (prs l) m = true) : 0 ≤ m ∧ m < 10080 := by
  obtain ⟨x, hx, h1, h2⟩ := (had_iff _ _).mp h
  obtain ⟨y, hy, rfl⟩ := List.mem_map.mp hx
  obtain ⟨b1, b2, b3⟩ := right_bounds l hr y hy
  have h1' : y.f0 ≤ m := h1
  have h2' : m < y.f1 := h2
  omega
/-- Two weeks that have the same minutes, put together, are one. -/
theorem jn_eq (J K : List Rg) (hJ : nrm (-1) J) (hK : nrm (-1) K) (h : ∀ m, had J m = had K m) : jn J = jn K := by rw [nrm_ext J K (-1) (-1) hJ hK h]
end Go.Proofs.Ytlnadfhhgcpkpaa.XW
