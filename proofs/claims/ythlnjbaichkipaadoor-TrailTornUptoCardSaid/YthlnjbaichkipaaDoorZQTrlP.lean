-- by a program of this session
import Derived.Test.YthlnjbaichkipaaDoorZQSum
set_option linter.unusedVariables false
set_option linter.unusedSimpArgs false
namespace Go.Proofs.YthlnjbaichkipaaDoor.Trl
open Go.Proofs.YthlnjbaichkipaaDoor.Sum Go.Proofs.YthlnjbaichkipaaDoor.Wire
abbrev Bl := List UInt8
def zs (n : Nat) : Bl := List.replicate n 0
def cutF (f : Bl) : List Bl := if 63 < f.length then (f.take 63 ++ [1]) :: cutF (f.drop 63) else [f ++ zs (63 - f.length) ++ [2]]
termination_by f.length
decreasing_by rw [List.length_drop]; omega
def endF (f : Bl) : Option Bl := if (nextL f).2.2 = 0 ∧ (nextL f).2.1.length < 63 ∧ (∀ c ∈ (nextL f).2.1, c = 0) then some (nextL f).1 else none
def recF (acc : Bl) : List Bl → Option (Bl × Nat)
  | [] => none
  | b :: r => if b.getD 63 0 = 1 then (recF (acc ++ b.take 63) r).map (fun p => (p.1, p.2 + 1)) else if b.getD 63 0 = 2 then (endF (acc ++ b.take 63)).map (fun s => (s, 1)) else none
def recsF : Nat → List Bl → List Bl × Nat
  | 0, _ => ([], 0)
  | n + 1, l => match recF [] l with
    | none => ([], 0)
    | some p => (p.1 :: (recsF n (l.drop p.2)).1, p.2 + (recsF n (l.drop p.2)).2)
theorem cutF_long {f : Bl} (h : 63 < f.length) : cutF f = (f.take 63 ++ [1]) :: cutF (f.drop 63) := by rw [cutF, if_pos h]
theorem cutF_last {f : Bl} (h : ¬ 63 < f.length) : cutF f = [f ++ zs (63 - f.length) ++ [2]] := by rw [cutF, if_neg h]
theorem recF_len : ∀ {l : List Bl} {acc : Bl} {p : Bl × Nat}, recF acc l = some p → 1 ≤ p.2 ∧ p.2 ≤ l.length
  | [], _, _, h => by cases h
  | b :: r, acc, p, h => by
    rw [recF] at h
    split at h
    · obtain ⟨q, hq, rfl⟩ := Option.map_eq_some_iff.mp h
      have := recF_len hq
      simp only [List.length_cons]
      omega
    · split at h
      · obtain ⟨q, hq, rfl⟩ := Option.map_eq_some_iff.mp h
        simp only [List.length_cons]
        omega
      · cases h
theorem recF_cut : ∀ (n : Nat) (f acc : Bl) (X : List Bl), f.length ≤ n → f ≠ [] → recF acc (cutF f ++ X) = (endF (acc ++ (f ++ zs (63 * (cutF f).length - f.length)))).map (fun s => (s, (cutF f).length)) ∧ f.length ≤ 63 * (cutF f).length ∧ 63 * (cutF f).length < f.length + 63
  | n, f, acc, X, hn, hne => by
    have hpos : 0 < f.length := List.length_pos_iff.mpr hne
    by_cases c : 63 < f.length
    · rw [cutF_long c, List.cons_append, recF]
      have hg : (f.take 63 ++ [(1 : UInt8)]).getD 63 0 = 1 := by
        rw [List.getD_eq_getElem?_getD, List.getElem?_append_right (by rw [List.length_take]; omega), List.length_take, Nat.min_eq_left (by omega)]
        rfl
      have ht : (f.take 63 ++ [(1 : UInt8)]).take 63 = f.take 63 := by
        rw [List.take_append_of_le_length (by rw [List.length_take]; omega), List.take_take, Nat.min_self]
      rw [if_pos hg, ht]
      have hd : (f.drop 63).length = f.length - 63 := List.length_drop
      obtain ⟨n', rfl⟩ : ∃ n', n = n' + 1 := ⟨n - 1, by omega⟩
      obtain ⟨e, h1, h2⟩ := recF_cut n' (f.drop 63) (acc ++ f.take 63) X (by omega) (by intro e; rw [e] at hd; simp at hd; omega)
      rw [hd] at h1 h2
      rw [e, Option.map_map, List.length_cons]
      refine ⟨?_, by omega, by omega⟩
      have e2 : acc ++ f.take 63 ++ (f.drop 63 ++ zs (63 * (cutF (f.drop 63)).length - (f.drop 63).length)) = acc ++ (f ++ zs (63 * ((cutF (f.drop 63)).length + 1) - f.length)) := by
        rw [hd, show 63 * ((cutF (f.drop 63)).length + 1) - f.length = 63 * (cutF (f.drop 63)).length - (f.length - 63) by omega]
        rw [List.append_assoc, ← List.append_assoc (f.take 63), List.take_append_drop]
      rw [e2]
      rfl
    · rw [cutF_last c, List.cons_append, recF]
      have hz : (f ++ zs (63 - f.length)).length = 63 := by rw [List.length_append]; simp [zs]; omega
      have hg : (f ++ zs (63 - f.length) ++ [(2 : UInt8)]).getD 63 0 = 2 := by
        rw [List.getD_eq_getElem?_getD, List.getElem?_append_right (by omega), hz]
        rfl
      have ht : (f ++ zs (63 - f.length) ++ [(2 : UInt8)]).take 63 = f ++ zs (63 - f.length) := by
        rw [List.take_append_of_le_length (by omega), List.take_of_length_le (by omega)]
      rw [hg, if_neg (by decide), if_pos rfl, ht]
      simp only [List.length_cons, List.length_nil, Nat.zero_add, Nat.mul_one]
      exact ⟨trivial, by omega, by omega⟩
theorem frameL_ne (s : Bl) : frameL s ≠ [] := by
  unfold frameL fourL
  intro e
  have := congrArg List.length e
  simp at this
def blksF (s : Bl) : List Bl := cutF (frameL s)
theorem recF_blks (s : Bl) (h : s.length ≤ 32768) (X : List Bl) : recF [] (blksF s ++ X) = some (s, (blksF s).length) := by
  obtain ⟨e, h1, h2⟩ := recF_cut _ (frameL s) [] X (Nat.le_refl _) (frameL_ne s)
  unfold blksF
  rw [e, List.nil_append]
  unfold endF
  rw [nextL_frame s _ h]
  simp only [true_and]
  rw [if_pos]
  · rfl
  · refine ⟨by simp [zs]; omega, fun c hc => ?_⟩
    exact List.eq_of_mem_replicate hc
theorem cutF_size : ∀ (n : Nat) (f : Bl), f.length ≤ n → ∀ b ∈ cutF f, b.length = 64
  | n, f, hn, b, hb => by
    by_cases c : 63 < f.length
    · rw [cutF_long c] at hb
      rcases List.mem_cons.mp hb with rfl | hb
      · rw [List.length_append, List.length_take]; simp; omega
      · have hd : (f.drop 63).length = f.length - 63 := List.length_drop
        obtain ⟨n', rfl⟩ : ∃ n', n = n' + 1 := ⟨n - 1, by omega⟩
        exact cutF_size n' (f.drop 63) (by omega) b hb
    · rw [cutF_last c] at hb
      rw [List.mem_singleton] at hb
      subst hb
      rw [List.length_append, List.length_append]
      simp [zs]
      omega
theorem blksF_size (s : Bl) : ∀ b ∈ blksF s, b.length = 64 := cutF_size _ _ (Nat.le_refl _)
end Go.Proofs.YthlnjbaichkipaaDoor.Trl
