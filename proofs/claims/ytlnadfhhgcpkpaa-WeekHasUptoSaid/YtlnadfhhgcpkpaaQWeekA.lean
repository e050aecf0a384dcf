-- by a program of this session
import Derived.Test.YtlnadfhhgcpkpaaQWeekN
import Derived.Test.YtlnadfhhgcpkpaaXW15
import Derived.Test.YtlnadfhhgcpkpaaXW16
set_option linter.unusedVariables false
set_option linter.unusedSimpArgs false
/-! Weeks put together: plain. -/
namespace Go.Proofs.Ytlnadfhhgcpkpaa.XW
open Go.RowKit Go.Proofs.YtlnadfhhgcpkpaaW.PrintWords Go.Proofs.YtlnadfhhgcpkpaaW.PrintLast Go.Proofs.YtlnadfhhgcpkpaaW.PrintMore Go.Proofs.Ytlnadfhhgcpkpaa.Wk
theorem checked_eq (a b : List Sg) (ha : a.length ≤ 1000000) (hb : b.length ≤ 1000000) (k : Nat) (hk : 1000020 ≤ k) : week_checked.f k [a, b] = some (if (rightB a && rightB b) = true then 0 else 2) := by
  obtain ⟨k, rfl⟩ : ∃ m, k = m + 3 := ⟨k - 3, by omega⟩
  unfold week_checked.f
  have r0 : rd_L2 [a, b] 0 = a := rfl
  have r1 : rd_L2 [a, b] 1 = b := rfl
  have w0 : wrap64 (0 + 1) = 1 := by unfold wrap64; omega
  have w1 : wrap64 (1 + 1) = 2 := by unfold wrap64; omega
  rw [week_checked.l0, if_pos (by simp), if_pos (by decide), if_pos (by simp), r0, check_eq a ha (k + 2) (by omega), Option.bind_some]
  cases ca : rightB a with
  | false => rfl
  | true =>
    rw [if_pos rfl, if_pos rfl, w0, week_checked.l0, if_pos (by simp), if_pos (by decide), if_pos (by simp), r1, check_eq b hb (k + 1) (by omega), Option.bind_some]
    cases cb : rightB b with
    | false => rfl
    | true => rw [if_pos rfl, if_pos rfl, w1, week_checked.l0, if_neg (by simp)]; rfl
theorem and_l0 : ∀ (n k : Nat) (x0 x1 out : List Sg) (a b : Int), x0.length + x1.length ≤ n → 2 * n + 1200 ≤ k → nrm a (prs x0) → nrm b (prs x1) → -1 ≤ a → -1 ≤ b → out.length + n ≤ 200 → (∀ y ∈ out, 0 ≤ y.f0 ∧ y.f0 ≤ y.f1) →
    ∃ J : List Rg, nrm (-1) J ∧ (∀ m, had J m = (had (prs out) m || (had (prs x0) m && had (prs x1) m))) ∧ week_And.l0 k x0 x1 out = some (jn J) := by
  intro n
  induction n with
  | zero =>
    intro k x0 x1 out a b hn hk h0 h1 ha hb ho hy
    obtain ⟨k, rfl⟩ : ∃ m, k = m + 2 := ⟨k - 2, by omega⟩
    obtain rfl : x0 = [] := List.eq_nil_of_length_eq_zero (by omega)
    obtain ⟨J, g1, g2, g3⟩ := join_eq out (by omega) hy k (by omega)
    refine ⟨J, g1, fun m => by rw [g2]; simp [had, prs], ?_⟩
    rw [week_And.l0, if_neg (by simp), week_And.j1, if_neg (by decide)]
    exact jn_bind _ _ g3
  | succ n ih =>
    intro k x0 x1 out a b hn hk h0 h1 ha hb ho hy
    obtain ⟨k, rfl⟩ : ∃ m, k = m + 2 := ⟨k - 2, by omega⟩
    obtain ⟨J, g1, g2, g3⟩ := join_eq out (by omega) hy k (by omega)
    match x0, x1, hn, h0, h1 with
    | [], x1, hn, h0, h1 =>
      refine ⟨J, g1, fun m => by rw [g2]; simp [had, prs], ?_⟩
      rw [week_And.l0, if_neg (by simp), week_And.j1, if_neg (by decide)]
      exact jn_bind _ _ g3
    | p :: xs, [], hn, h0, h1 =>
      refine ⟨J, g1, fun m => by rw [g2]; simp [had, prs], ?_⟩
      rw [week_And.l0, if_pos (by first | (simp; done) | (simp; omega)), decide_eq_false (by simp), week_And.j1, if_neg (by decide)]
      exact jn_bind _ _ g3
    | p :: xs, q :: ys, hn, h0, h1 =>
      clear g1 g2 g3 J
      obtain ⟨a1, a2, a3⟩ := h0
      obtain ⟨b1, b2, b3⟩ := h1
      have a1' : a < p.f0 := a1
      have a2' : p.f0 < p.f1 := a2
      have b1' : b < q.f0 := b1
      have b2' : q.f0 < q.f1 := b2
      have a3' : nrm p.f1 (prs xs) := a3
      have b3' : nrm q.f1 (prs ys) := b3
      rw [List.length_cons, List.length_cons] at hn
      have r0 : rd_T38 (p :: xs) 0 = p := rfl
      have r1 : rd_T38 (q :: ys) 0 = q := rfl
      have hm : mx p.f0 q.f0 = max p.f0 q.f0 := mx_eq _ _
      have key : ∀ out', (∀ y ∈ out', 0 ≤ y.f0 ∧ y.f0 ≤ y.f1) → out'.length ≤ out.length + 1 → (∀ m, had (prs out') m = (had (prs out) m || ((decide (p.f0 ≤ m) && decide (m < p.f1)) && (decide (q.f0 ≤ m) && decide (m < q.f1))))) →
          ∃ J : List Rg, nrm (-1) J ∧ (∀ m, had J m = (had (prs out) m || (had (prs (p :: xs)) m && had (prs (q :: ys)) m))) ∧
            (if p.f1 < q.f1 then (if 1 ≤ ((p :: xs).length : Int) then week_And.l0 k ((p :: xs).drop 1) (q :: ys) out' else none) else (if 1 ≤ ((q :: ys).length : Int) then week_And.l0 k (p :: xs) ((q :: ys).drop 1) out' else none)) = some (jn J) := by
        intro out' hy' hlen hhad
        by_cases c : p.f1 < q.f1
        · obtain ⟨J, g1, g2, g3⟩ := ih k xs (q :: ys) out' p.f1 b (by rw [List.length_cons]; omega) (by omega) a3' ⟨b1, b2, b3⟩ (by omega) hb (by omega) hy'
          refine ⟨J, g1, fun m => ?_, by rw [if_pos c, if_pos (by first | (simp; done) | (simp; omega))]; exact g3⟩
          have k1 : had (prs ys) m = true → q.f1 < m := had_lb _ _ b3' m
          rw [g2, hhad, prs_cons, prs_cons, had_cons, had_cons]
          show _ = (had (prs out) m || ((decide (p.f0 ≤ m) && decide (m < p.f1) || had (prs xs) m) && (decide (q.f0 ≤ m) && decide (m < q.f1) || had (prs ys) m)))
          show (had (prs out) m || (decide (p.f0 ≤ m) && decide (m < p.f1) && (decide (q.f0 ≤ m) && decide (m < q.f1))) || (had (prs xs) m && (decide (q.f0 ≤ m) && decide (m < q.f1) || had (prs ys) m))) = _
          cases hB : had (prs ys) m with
          | true =>
            have hq := k1 hB
            rw [decide_eq_false (show ¬ m < p.f1 by omega), decide_eq_false (show ¬ m < q.f1 by omega)]
            cases had (prs out) m <;> cases had (prs xs) m <;> simp
          | false =>
            cases had (prs out) m <;> cases had (prs xs) m <;> cases (decide (p.f0 ≤ m) && decide (m < p.f1)) <;> cases (decide (q.f0 ≤ m) && decide (m < q.f1)) <;> rfl
        · obtain ⟨J, g1, g2, g3⟩ := ih k (p :: xs) ys out' a q.f1 (by rw [List.length_cons]; omega) (by omega) ⟨a1, a2, a3⟩ b3' ha (by omega) (by omega) hy'
          refine ⟨J, g1, fun m => ?_, by rw [if_neg c, if_pos (by first | (simp; done) | (simp; omega))]; exact g3⟩
          have k1 : had (prs xs) m = true → p.f1 < m := had_lb _ _ a3' m
          rw [g2, hhad, prs_cons, prs_cons, had_cons, had_cons]
          show (had (prs out) m || (decide (p.f0 ≤ m) && decide (m < p.f1) && (decide (q.f0 ≤ m) && decide (m < q.f1))) || ((decide (p.f0 ≤ m) && decide (m < p.f1) || had (prs xs) m) && had (prs ys) m)) = (had (prs out) m || ((decide (p.f0 ≤ m) && decide (m < p.f1) || had (prs xs) m) && (decide (q.f0 ≤ m) && decide (m < q.f1) || had (prs ys) m)))
          cases hA : had (prs xs) m with
          | true =>
            have hq := k1 hA
            rw [decide_eq_false (show ¬ m < p.f1 by omega), decide_eq_false (show ¬ m < q.f1 by omega)]
            cases had (prs out) m <;> cases had (prs ys) m <;> simp
          | false =>
            cases had (prs out) m <;> cases had (prs ys) m <;> cases (decide (p.f0 ≤ m) && decide (m < p.f1)) <;> cases (decide (q.f0 ≤ m) && decide (m < q.f1)) <;> rfl
      rw [week_And.l0, if_pos (by first | (simp; done) | (simp; omega)), decide_eq_true (by first | (simp; done) | (simp; omega)), week_And.j1, if_pos rfl, if_pos (by first | (simp; done) | (simp; omega)), if_pos (by first | (simp; done) | (simp; omega)), r0, r1, hm]
      have hmn : mn p.f1 q.f1 = min p.f1 q.f1 := by
        unfold mn
        by_cases h : q.f1 < p.f1
        · rw [if_pos h, Int.min_eq_right (by omega)]
        · rw [if_neg h, Int.min_eq_left (by omega)]
      rw [hmn]
      have m1 : p.f0 ≤ max p.f0 q.f0 := Int.le_max_left _ _
      have m2 : q.f0 ≤ max p.f0 q.f0 := Int.le_max_right _ _
      have m3 : max p.f0 q.f0 = p.f0 ∨ max p.f0 q.f0 = q.f0 := by
        rcases Int.le_total p.f0 q.f0 with h | h
        · right; exact Int.max_eq_right h
        · left; exact Int.max_eq_left h
      have n1 : min p.f1 q.f1 ≤ p.f1 := Int.min_le_left _ _
      have n2 : min p.f1 q.f1 ≤ q.f1 := Int.min_le_right _ _
      have n3 : min p.f1 q.f1 = p.f1 ∨ min p.f1 q.f1 = q.f1 := by
        rcases Int.le_total p.f1 q.f1 with h | h
        · left; exact Int.min_eq_left h
        · right; exact Int.min_eq_right h
      generalize max p.f0 q.f0 = M at *
      generalize min p.f1 q.f1 = K at *
      by_cases c : M < K
      · rw [if_pos c, if_pos (by omega), Option.bind_some]
        exact key (out ++ [⟨M, K⟩]) (fun y hy' => by
          rcases List.mem_append.mp hy' with h | h
          · exact hy y h
          · rw [List.mem_singleton] at h
            subst h
            exact ⟨by show 0 ≤ M; omega, by show M ≤ K; omega⟩) (by rw [List.length_append]; simp) (fun m => by
          rw [prs_append, had_append]
          congr 1
          show had [(M, K)] m = _
          rw [had_one, Bool.eq_iff_iff]
          simp
          omega)
      · rw [if_neg c]
        exact key out hy (by omega) (fun m => by
          have : ((decide (p.f0 ≤ m) && decide (m < p.f1)) && (decide (q.f0 ≤ m) && decide (m < q.f1))) = false := by
            rw [Bool.eq_false_iff]
            simp
            omega
          rw [this, Bool.or_false])
theorem and_eq (a b : List Sg) (ha : a.length ≤ 1000000) (hb : b.length ≤ 1000000) (k : Nat) (hk : 1000020 ≤ k) : ((rightB a && rightB b) = false ∧ week_And.f k a b = some ([], 2)) ∨
    ((rightB a && rightB b) = true ∧ ∃ J : List Rg, nrm (-1) J ∧ (∀ m, had J m = (had (prs a) m && had (prs b) m)) ∧ week_And.f k a b = some (jn J)) := by
  unfold week_And.f
  rw [checked_eq a b ha hb k hk, Option.bind_some]
  cases c : (rightB a && rightB b) with
  | false => exact .inl ⟨rfl, rfl⟩
  | true =>
    rw [if_pos rfl, if_pos rfl]
    rw [Bool.and_eq_true] at c
    obtain ⟨a1, _, a3⟩ := right_nrm a c.1
    obtain ⟨b1, _, b3⟩ := right_nrm b c.2
    obtain ⟨J, g1, g2, g3⟩ := and_l0 (a.length + b.length) k a b [] (-1) (-1) (Nat.le_refl _) (by omega) a1 b1 (by omega) (by omega) (by first | (simp; done) | (simp; omega)) (by simp)
    exact .inr ⟨rfl, J, g1, fun m => by rw [g2]; simp [had, prs], g3⟩
theorem concat_eq (a b : List Sg) (ha : a.length ≤ 64) (hb : b.length ≤ 64) (k : Nat) (hk : 10 ≤ k) : api_Range_38.f k [a, b] = some (a ++ b) := by
  obtain ⟨k, rfl⟩ : ∃ m, k = m + 6 := ⟨k - 6, by omega⟩
  unfold api_Range_38.f
  have r0 : rd_L2 [a, b] 0 = a := rfl
  have r1 : rd_L2 [a, b] 1 = b := rfl
  have w0 : wrap64 (0 + 1) = 1 := by unfold wrap64; omega
  have w1 : wrap64 (1 + 1) = 2 := by unfold wrap64; omega
  have s0 : wrap64 (0 + (a.length : Int)) = (a.length : Int) := by unfold wrap64; omega
  have s1 : wrap64 ((a.length : Int) + (b.length : Int)) = (a.length : Int) + (b.length : Int) := by unfold wrap64; omega
  rw [api_Range_38.l0, if_pos (by simp), if_pos (by decide), if_pos (by simp), r0, s0, if_neg (by omega), w0,
    api_Range_38.l0, if_pos (by simp), if_pos (by decide), if_pos (by simp), r1, s1, if_neg (by omega), w1,
    api_Range_38.l0, if_neg (by simp)]
  unfold api_Range_43.f
  rw [if_pos ⟨by omega, by omega⟩, Option.bind_some,
    api_Range_38.l1, if_pos (by simp), if_pos (by decide), if_pos (by simp), r0, if_pos (by first | (simp; done) | (simp; omega)), w0,
    api_Range_38.l1, if_pos (by simp), if_pos (by decide), if_pos (by simp), r1, if_pos (by first | (simp; done) | (simp; omega)), w1,
    api_Range_38.l1, if_neg (by simp)]
  simp
theorem or_eq (a b : List Sg) (ha : a.length ≤ 1000000) (hb : b.length ≤ 1000000) (k : Nat) (hk : 1000020 ≤ k) : ((rightB a && rightB b) = false ∧ week_Or.f k a b = some ([], 2)) ∨
    ((rightB a && rightB b) = true ∧ ∃ J : List Rg, nrm (-1) J ∧ (∀ m, had J m = (had (prs a) m || had (prs b) m)) ∧ week_Or.f k a b = some (jn J)) := by
  unfold week_Or.f
  rw [checked_eq a b ha hb k hk, Option.bind_some]
  cases c : (rightB a && rightB b) with
  | false => exact .inl ⟨rfl, rfl⟩
  | true =>
    rw [if_pos rfl, if_pos rfl]
    rw [Bool.and_eq_true] at c
    obtain ⟨a1, _, a3⟩ := right_nrm a c.1
    obtain ⟨b1, _, b3⟩ := right_nrm b c.2
    rw [concat_eq a b a3 b3 k (by omega), Option.bind_some]
    obtain ⟨J, g1, g2, g3⟩ := join_eq (a ++ b) (by rw [List.length_append]; omega) (fun x hx => by
      rcases List.mem_append.mp hx with h | h
      · obtain ⟨u, v, _⟩ := right_bounds a c.1 x h; exact ⟨u, by omega⟩
      · obtain ⟨u, v, _⟩ := right_bounds b c.2 x h; exact ⟨u, by omega⟩) k (by omega)
    exact .inr ⟨rfl, J, g1, fun m => by rw [g2, prs_append, had_append], jn_bind _ _ g3⟩
end Go.Proofs.Ytlnadfhhgcpkpaa.XW
