-- by a program of this session
import Derived.Test.YthlnjbaichkipaaDoorQSum
set_option linter.unusedVariables false
set_option linter.unusedSimpArgs false
/-! Records in blocks, in plain lists. -/
namespace Go.Proofs.YthlnjbaichkipaaDoor.Trl
open Go.Proofs.YthlnjbaichkipaaDoor.Sum Go.Proofs.YthlnjbaichkipaaDoor.Wire
abbrev Bl := List UInt8
def zs (n : Nat) : Bl := List.replicate n 0
/-- A frame's blocks. -/
def cutF (f : Bl) : List Bl := if 63 < f.length then (f.take 63 ++ [1]) :: cutF (f.drop 63) else [f ++ zs (63 - f.length) ++ [2]]
termination_by f.length
decreasing_by rw [List.length_drop]; omega
/-- What gathered bytes are: a record, and nothing but zeros behind it. -/
def endF (f : Bl) : Option Bl := if (nextL f).2.2 = 0 ∧ (nextL f).2.1.length < 63 ∧ (∀ c ∈ (nextL f).2.1, c = 0) then some (nextL f).1 else none
/-- The record that blocks begin with, and how many it has. -/
def recF (acc : Bl) : List Bl → Option (Bl × Nat)
  | [] => none
  | b :: r => if b.getD 63 0 = 1 then (recF (acc ++ b.take 63) r).map (fun p => (p.1, p.2 + 1)) else if b.getD 63 0 = 2 then (endF (acc ++ b.take 63)).map (fun s => (s, 1)) else none
/-- Records, one behind the other, and how many blocks they use. -/
def recsF : Nat → List Bl → List Bl × Nat
  | 0, _ => ([], 0)
  | n + 1, l => match recF [] l with
    | none => ([], 0)
    | some p => (p.1 :: (recsF n (l.drop p.2)).1, p.2 + (recsF n (l.drop p.2)).2)
theorem cutF_long {f : Bl} (h : 63 < f.length) : cutF f = (f.take 63 ++ [1]) :: cutF (f.drop 63) := by rw [cutF, if_pos h]
theorem cutF_last {f : Bl} (h : ¬ 63 < f.length) : cutF f = [f ++ zs (63 - f.length) ++ [2]] := by rw [cutF, if_neg h]
theorem recF_len : ∀ {l : List Bl} {acc : Bl} {p : Bl × Nat}, recF acc l = some p → 1 ≤ p.2 ∧ p.2 ≤ l.length
  | [], _, _, h => by cases h
  | b :: r, acc, p, h => by
    rw [recF] at h
    split at h
    · obtain ⟨q, hq, rfl⟩ := Option.map_eq_some_iff.mp h
      have := recF_len hq
      simp only [List.length_cons]
      omega
    · split at h
      · obtain ⟨q, hq, rfl⟩ := Option.map_eq_some_iff.mp h
        simp only [List.length_cons]
        omega
      · cases h
/-- A record hangs on its own blocks alone. -/
theorem recF_take : ∀ {l : List Bl} {acc : Bl} {p : Bl × Nat} (X : List Bl), recF acc l = some p → recF acc (l.take p.2 ++ X) = some p
  | [], _, _, _, h => by cases h
  | b :: r, acc, p, X, h => by
    rw [recF] at h
    split at h
    · rename_i c
      obtain ⟨q, hq, rfl⟩ := Option.map_eq_some_iff.mp h
      have ih := recF_take X hq
      rw [List.take_succ_cons, List.cons_append, recF, if_pos c, ih]
      rfl
    · rename_i c
      split at h
      · rename_i d
        obtain ⟨q, hq, rfl⟩ := Option.map_eq_some_iff.mp h
        rw [List.take_succ_cons, List.take_zero, List.cons_append, recF, if_neg c, if_pos d, hq]
        rfl
      · cases h
theorem recsF_len : ∀ (n : Nat) (l : List Bl), (recsF n l).2 ≤ l.length
  | 0, l => Nat.zero_le _
  | n + 1, l => by
    rw [recsF]
    split
    · exact Nat.zero_le _
    · rename_i p hp
      have h1 := recF_len hp
      have h2 := recsF_len n (l.drop p.2)
      rw [List.length_drop] at h2
      simp only
      omega
/-- Records behind records. -/
theorem recsF_app : ∀ (n : Nat) (l X : List Bl) (m : Nat), l.length ≤ n → (l.take (recsF n l).2 ++ X).length ≤ m → ∃ k, X.length ≤ k ∧ recsF m (l.take (recsF n l).2 ++ X) = ((recsF n l).1 ++ (recsF k X).1, (recsF n l).2 + (recsF k X).2)
  | 0, l, X, m, hl, hm => by
    refine ⟨m, ?_, ?_⟩
    · rw [recsF, List.take_zero, List.nil_append] at hm; exact hm
    · rw [recsF, List.take_zero, List.nil_append, List.nil_append, Nat.zero_add]
  | n + 1, l, X, m, hl, hm => by
    rw [recsF] at hm ⊢
    cases hr : recF [] l with
    | none =>
      rw [hr] at hm
      simp only [List.take_zero, List.nil_append] at hm ⊢
      exact ⟨m, hm, by rw [Nat.zero_add]⟩
    | some p =>
      rw [hr] at hm
      simp only at hm ⊢
      obtain ⟨h1, h2⟩ := recF_len hr
      have hu := recsF_len n (l.drop p.2)
      rw [List.length_drop] at hu
      have hsplit : l.take (p.2 + (recsF n (l.drop p.2)).2) = l.take p.2 ++ (l.drop p.2).take (recsF n (l.drop p.2)).2 := List.take_add
      rw [hsplit, List.append_assoc] at hm ⊢
      have hlt : (l.take p.2).length = p.2 := by rw [List.length_take]; omega
      rw [List.length_append, hlt] at hm
      obtain ⟨m', rfl⟩ : ∃ m', m = m' + 1 := ⟨m - 1, by omega⟩
      obtain ⟨k, hk, e⟩ := recsF_app n (l.drop p.2) X m' (by rw [List.length_drop]; omega) (by omega)
      refine ⟨k, hk, ?_⟩
      rw [recsF, recF_take _ hr]
      simp only
      have hd : (l.take p.2 ++ ((l.drop p.2).take (recsF n (l.drop p.2)).2 ++ X)).drop p.2 = (l.drop p.2).take (recsF n (l.drop p.2)).2 ++ X := by
        rw [List.drop_append, hlt, Nat.sub_self, List.drop_zero, List.drop_eq_nil_of_le (by omega), List.nil_append]
      rw [hd, e]
      simp only [List.cons_append, Prod.mk.injEq, true_and]
      omega
/-- The blocks of a frame: gathered again. -/
theorem recF_cut : ∀ (n : Nat) (f acc : Bl) (X : List Bl), f.length ≤ n → f ≠ [] → recF acc (cutF f ++ X) = (endF (acc ++ (f ++ zs (63 * (cutF f).length - f.length)))).map (fun s => (s, (cutF f).length)) ∧ f.length ≤ 63 * (cutF f).length ∧ 63 * (cutF f).length < f.length + 63
  | n, f, acc, X, hn, hne => by
    have hpos : 0 < f.length := List.length_pos_iff.mpr hne
    by_cases c : 63 < f.length
    · rw [cutF_long c, List.cons_append, recF]
      have hg : (f.take 63 ++ [(1 : UInt8)]).getD 63 0 = 1 := by
        rw [List.getD_eq_getElem?_getD, List.getElem?_append_right (by rw [List.length_take]; omega), List.length_take, Nat.min_eq_left (by omega)]
        rfl
      have ht : (f.take 63 ++ [(1 : UInt8)]).take 63 = f.take 63 := by
        rw [List.take_append_of_le_length (by rw [List.length_take]; omega), List.take_take, Nat.min_self]
      rw [if_pos hg, ht]
      have hd : (f.drop 63).length = f.length - 63 := List.length_drop
      obtain ⟨n', rfl⟩ : ∃ n', n = n' + 1 := ⟨n - 1, by omega⟩
      obtain ⟨e, h1, h2⟩ := recF_cut n' (f.drop 63) (acc ++ f.take 63) X (by omega) (by intro e; rw [e] at hd; simp at hd; omega)
      rw [hd] at h1 h2
      rw [e, Option.map_map, List.length_cons]
      refine ⟨?_, by omega, by omega⟩
      have e2 : acc ++ f.take 63 ++ (f.drop 63 ++ zs (63 * (cutF (f.drop 63)).length - (f.drop 63).length)) = acc ++ (f ++ zs (63 * ((cutF (f.drop 63)).length + 1) - f.length)) := by
        rw [hd, show 63 * ((cutF (f.drop 63)).length + 1) - f.length = 63 * (cutF (f.drop 63)).length - (f.length - 63) by omega]
        rw [List.append_assoc, ← List.append_assoc (f.take 63), List.take_append_drop]
      rw [e2]
      rfl
    · rw [cutF_last c, List.cons_append, recF]
      have hz : (f ++ zs (63 - f.length)).length = 63 := by rw [List.length_append]; simp [zs]; omega
      have hg : (f ++ zs (63 - f.length) ++ [(2 : UInt8)]).getD 63 0 = 2 := by
        rw [List.getD_eq_getElem?_getD, List.getElem?_append_right (by omega), hz]
        rfl
      have ht : (f ++ zs (63 - f.length) ++ [(2 : UInt8)]).take 63 = f ++ zs (63 - f.length) := by
        rw [List.take_append_of_le_length (by omega), List.take_of_length_le (by omega)]
      rw [hg, if_neg (by decide), if_pos rfl, ht]
      simp only [List.length_cons, List.length_nil, Nat.zero_add, Nat.mul_one]
      exact ⟨trivial, by omega, by omega⟩
theorem frameL_ne (s : Bl) : frameL s ≠ [] := by
  unfold frameL fourL
  intro e
  have := congrArg List.length e
  simp at this
/-- A record's blocks. -/
def blksF (s : Bl) : List Bl := cutF (frameL s)
theorem recF_blks (s : Bl) (h : s.length ≤ 32768) (X : List Bl) : recF [] (blksF s ++ X) = some (s, (blksF s).length) := by
  obtain ⟨e, h1, h2⟩ := recF_cut _ (frameL s) [] X (Nat.le_refl _) (frameL_ne s)
  unfold blksF
  rw [e, List.nil_append]
  unfold endF
  rw [nextL_frame s _ h]
  simp only [true_and]
  rw [if_pos]
  · rfl
  · refine ⟨by simp [zs]; omega, fun c hc => ?_⟩
    exact List.eq_of_mem_replicate hc
theorem cutF_size : ∀ (n : Nat) (f : Bl), f.length ≤ n → ∀ b ∈ cutF f, b.length = 64
  | n, f, hn, b, hb => by
    by_cases c : 63 < f.length
    · rw [cutF_long c] at hb
      rcases List.mem_cons.mp hb with rfl | hb
      · rw [List.length_append, List.length_take]; simp; omega
      · have hd : (f.drop 63).length = f.length - 63 := List.length_drop
        obtain ⟨n', rfl⟩ : ∃ n', n = n' + 1 := ⟨n - 1, by omega⟩
        exact cutF_size n' (f.drop 63) (by omega) b hb
    · rw [cutF_last c] at hb
      rw [List.mem_singleton] at hb
      subst hb
      rw [List.length_append, List.length_append]
      simp [zs]
      omega
theorem blksF_size (s : Bl) : ∀ b ∈ blksF s, b.length = 64 := cutF_size _ _ (Nat.le_refl _)
end Go.Proofs.YthlnjbaichkipaaDoor.Trl
