-- by a program of this session
import Derived.Test.YtcblmfcgjemgkaaDoorXS0
import Derived.Lib.SplitLaws
import Derived.Lib.IndexMore
set_option linter.unusedVariables false
set_option linter.unusedSimpArgs false
/-! Templates' tokens, in plain lists: what both the program and the document's definition come to. -/
namespace Go.Proofs.YtcblmfcgjemgkaaDoor.XS
open Go.RowKit Go.Proofs.YtcblmfcgjemgkaaDoorW.PrintWords Go.Proofs.YtcblmfcgjemgkaaDoorW.PrintLast Go.Proofs.YtcblmfcgjemgkaaDoorW.PrintMore
/-- A text of bytes. -/
def ofL (l : List UInt8) : ByteArray := ⟨l.toArray⟩
theorem ofL_data (s : ByteArray) : ofL s.data.toList = s := by cases s; simp [ofL]
theorem ofL_toL (l : List UInt8) : (ofL l).data.toList = l := by simp [ofL]
theorem ofL_size (l : List UInt8) : (ofL l).size = l.length := by simp [ofL, ByteArray.size]
theorem size_toL (s : ByteArray) : s.size = s.data.toList.length := Array.length_toList.symm
/-- Where two of a byte first stand. -/
def fnd (c : UInt8) : List UInt8 → Option Nat
  | [] => none
  | [_] => none
  | x :: y :: l => if x = c ∧ y = c then some 0 else (fnd c (y :: l)).map (· + 1)
theorem index_two (c : UInt8) : ∀ l : List UInt8, Lib.index l [c, c] = match fnd c l with | none => -1 | some i => (i : Int)
  | [] => rfl
  | [x] => by
    rw [Lib.index, if_neg (by simp [List.isPrefixOf])]
    rfl
  | x :: y :: l => by
    have ih := index_two c (y :: l)
    rw [Lib.index, fnd, ih]
    by_cases h : x = c ∧ y = c
    · rw [if_pos h, if_pos (by simp [List.isPrefixOf, h.1, h.2])]
      rfl
    · rw [if_neg h, if_neg (by
        simp only [List.isPrefixOf, Bool.and_true, Bool.and_eq_true, beq_iff_eq]
        intro e
        exact h ⟨e.1.symm, e.2.symm⟩)]
      cases fnd c (y :: l) with
      | none => rfl
      | some i =>
        simp only [Option.map_some]
        rw [if_neg (by rw [beq_iff_eq]; omega)]
        rfl
theorem fnd_le {c : UInt8} : ∀ {l : List UInt8} {i : Nat}, fnd c l = some i → i + 2 ≤ l.length
  | [], _, h => by cases h
  | [_], _, h => by cases h
  | x :: y :: l, i, h => by
    rw [fnd] at h
    split at h
    · cases h; simp
    · obtain ⟨j, hj, rfl⟩ := Option.map_eq_some_iff.mp h
      have := fnd_le hj
      simp only [List.length_cons] at this ⊢
      omega
theorem cut_two (c : UInt8) (l : List UInt8) : Lib.cut l [c, c] = match fnd c l with | none => (l, [], false) | some i => (l.take i, l.drop (i + 2), true) := by
  unfold Lib.cut
  rw [index_two]
  cases fnd c l with
  | none => simp
  | some i =>
    simp only
    rw [if_pos (by omega)]
    simp
/-- A text's pieces, between single bytes. -/
def spl (c : UInt8) : List UInt8 → List (List UInt8)
  | [] => [[]]
  | x :: l => if x = c then [] :: spl c l else match spl c l with | [] => [[x]] | p :: r => (x :: p) :: r
theorem spl_ne (c : UInt8) (l : List UInt8) : spl c l ≠ [] := by
  cases l with
  | nil => simp [spl]
  | cons x l =>
    rw [spl]
    split
    · simp
    · split <;> simp
theorem index_one (c : UInt8) : ∀ l : List UInt8, Lib.index l [c] = if c ∈ l then ((l.takeWhile (· != c)).length : Int) else -1
  | [] => by simp [Lib.index]
  | x :: l => by
    rw [Lib.index, index_one c l]
    by_cases h : c = x
    · subst h
      rw [if_pos (by simp [List.isPrefixOf])]
      simp
    · rw [if_neg (by simp [List.isPrefixOf, h])]
      by_cases h2 : c ∈ l
      · rw [if_pos h2, if_pos (List.mem_cons_of_mem _ h2), if_neg (by rw [beq_iff_eq]; omega)]
        have hx : (x != c) = true := bne_iff_ne.mpr (fun e => h e.symm)
        rw [List.takeWhile_cons, if_pos hx]
        simp
      · rw [if_neg h2, if_neg (fun e => (List.mem_cons.mp e).elim h h2), if_pos (by decide)]
theorem spl_none {c : UInt8} : ∀ {l : List UInt8}, c ∉ l → spl c l = [l]
  | [], _ => rfl
  | x :: l, h => by
    have h1 : x ≠ c := fun e => h (e ▸ List.mem_cons_self ..)
    rw [spl, if_neg h1, spl_none (fun e => h (List.mem_cons_of_mem _ e))]
theorem spl_some {c : UInt8} : ∀ {l : List UInt8}, c ∈ l → spl c l = l.takeWhile (· != c) :: spl c (l.drop ((l.takeWhile (· != c)).length + 1))
  | [], h => by cases h
  | x :: l, h => by
    by_cases h1 : x = c
    · subst h1
      rw [spl, if_pos rfl]
      simp
    · have hx : (x != c) = true := bne_iff_ne.mpr h1
      have h2 : c ∈ l := (List.mem_cons.mp h).resolve_left (fun e => h1 e.symm)
      rw [spl, if_neg h1, spl_some h2, List.takeWhile_cons, if_pos hx]
      simp
theorem splitK_spl (c : UInt8) : ∀ (k : Nat) (l : List UInt8), l.count c = k → Lib.splitK [c] 0 k l = spl c l
  | 0, l, h => by
    rw [Lib.splitK, spl_none (List.count_eq_zero.mp h)]
  | k + 1, l, h => by
    have hm : c ∈ l := by
      rw [← List.count_pos_iff]
      omega
    rw [Lib.splitK, index_one, if_pos hm, if_neg (by rw [beq_iff_eq]; omega), Int.toNat_natCast, Nat.add_zero, spl_some hm]
    have hsplit : l = l.takeWhile (· != c) ++ c :: l.drop ((l.takeWhile (· != c)).length + 1) := by
      clear h
      induction l with
      | nil => cases hm
      | cons x l ih =>
        by_cases h1 : x = c
        · subst h1; simp
        · have hx : (x != c) = true := bne_iff_ne.mpr h1
          have h2 : c ∈ l := (List.mem_cons.mp hm).resolve_left (fun e => h1 e.symm)
          rw [List.takeWhile_cons, if_pos hx]
          simp only [List.length_cons, List.drop_succ_cons, List.cons_append]
          rw [← ih h2]
    have hc : (l.drop ((l.takeWhile (· != c)).length + 1)).count c = k := by
      have h0 : (l.takeWhile (· != c)).count c = 0 := by
        rw [List.count_eq_zero]
        intro e
        have := List.all_eq_true.mp List.all_takeWhile c e
        simp at this
      have h1 := congrArg (List.count c) hsplit
      rw [List.count_append, h0, List.count_cons_self] at h1
      omega
    have ht : l.take (l.takeWhile (· != c)).length = l.takeWhile (· != c) := by
      have h := List.take_left (l₁ := l.takeWhile (· != c)) (l₂ := c :: l.drop ((l.takeWhile (· != c)).length + 1))
      rwa [← hsplit] at h
    rw [ht]
    congr 1
    exact splitK_spl c k _ hc
theorem split_spl (c : UInt8) (l : List UInt8) : Lib.splitK [c] 0 (Lib.count l [c]) l = spl c l := splitK_spl c _ l (Lib.count_one c l).symm
end Go.Proofs.YtcblmfcgjemgkaaDoor.XS
