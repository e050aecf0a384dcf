/- For every three lists of ranges and a number within the bound: a minute is in And just if it is in both, in Or just if it is in one, in Not just if it is not; what is made has just the minutes of its ranges. -/
import Derived.Test.YtlnadfhhgcpkpaaUWeekHas
import Derived.Test.YtlnadfhhgcpkpaaQWeekA
import Derived.Test.YtlnadfhhgcpkpaaQWeekLives
set_option linter.unusedVariables false
set_option linter.unusedSimpArgs false
namespace Go.Proofs.Ytlnadfhhgcpkpaa.XW
open Go.RowKit Go.Proofs.YtlnadfhhgcpkpaaW.PrintWords Go.Proofs.YtlnadfhhgcpkpaaW.PrintLast Go.Proofs.YtlnadfhhgcpkpaaW.PrintMore Go.Proofs.Ytlnadfhhgcpkpaa.Wk
theorem sum_ones5 {α : Type} (l : List α) : (l.map (fun _ => ((1 + 1) + 1))).sum = 3 * l.length := by
  induction l with
  | nil => rfl
  | cons x l ih => rw [List.map_cons, List.sum_cons, ih, List.length_cons]; omega
theorem wh_in_eq (m : Int) (x : Sg) : wh_in m x = inB x m := by
  unfold wh_in inB
  by_cases c : x.f0 ≤ x.f1
  · rw [if_pos c, decide_eq_true c, decide_eq_false (show ¬ x.f1 < x.f0 by omega), Bool.true_and, Bool.false_and, Bool.or_false]
  · rw [if_neg c, decide_eq_false c, decide_eq_true (show x.f1 < x.f0 by omega), Bool.false_and, Bool.false_and, Bool.false_or, Bool.true_and]
theorem wh_any_eq (m : Int) (l : List Sg) : wh_any m l l.length = l.any (fun x => inB x m) := by
  unfold wh_any
  rw [List.take_length]
  congr 1
  funext x
  exact wh_in_eq m x
theorem had_wk2 (l : List Sg) (hr : rightB l = true) (m : Int) (h : had (prs l) m = true) : 0 ≤ m ∧ m < 10080 := by
  obtain ⟨x, hx, h1, h2⟩ := (had_iff _ _).mp h
  obtain ⟨y, hy, rfl⟩ := List.mem_map.mp hx
  obtain ⟨b1, b2, b3⟩ := right_bounds l hr y hy
  have h1' : y.f0 ≤ m := h1
  have h2' : m < y.f1 := h2
  omega
theorem has_jn (J : List Rg) (hn : nrm (-1) J) (hb : ∀ m, had J m = true → m < 10080) (n : Int) (h0 : 0 ≤ n) (h1 : n < 10080) (k : Nat) (hk : 1100000 ≤ k) : ∃ v : Bool × Int, week_Has.f k (jn J).1 n = some v ∧ ((jn J).2 = 0 → v.2 = 0 ∧ v.1 = had J n) := by
  refine ⟨_, has_eq (jn J).1 (by have := jn_len J; omega) n k (by omega), fun hz => ?_⟩
  have hl : J.length ≤ 64 := by
    by_cases c : J.length ≤ 64
    · exact c
    · unfold jn at hz
      rw [if_neg c] at hz
      cases hz
  have hj : (jn J).1 = J.map mk := by unfold jn; rw [if_pos hl]
  rw [hj, if_pos (jn_right J hn hb hl), if_pos ⟨h0, h1⟩, prs_mk]
  exact ⟨rfl, rfl⟩
theorem mid_ok (a b : List Sg) (ha : a.length ≤ 1000000) (hb : b.length ≤ 1000000) (ra : rightB a = true) (rb : rightB b = true) (n : Int) (h0 : 0 ≤ n) (h1 : n < 10080) (k : Nat) (hk : 1100000 ≤ k) : wh_mid k a b n (had (prs a) n) (had (prs b) n) = some () := by
  unfold wh_mid
  rcases and_eq a b ha hb k (by omega) with ⟨hr, _⟩ | ⟨_, J, j1, j2, e1⟩
  · rw [ra, rb] at hr; cases hr
  rcases or_eq a b ha hb k (by omega) with ⟨hr, _⟩ | ⟨_, K, k1, k2, e2⟩
  · rw [ra, rb] at hr; cases hr
  rcases weeknot_eq a ha k (by omega) with ⟨hr, _⟩ | ⟨_, L, l1, l2, e3⟩
  · rw [ra] at hr; cases hr
  obtain ⟨u, u1, u2⟩ := has_jn J j1 (fun m h => by
    rw [j2, Bool.and_eq_true] at h
    exact (had_wk2 a ra m h.1).2) n h0 h1 k hk
  obtain ⟨v, v1, v2⟩ := has_jn K k1 (fun m h => by
    rw [k2, Bool.or_eq_true] at h
    rcases h with h | h
    · exact (had_wk2 a ra m h).2
    · exact (had_wk2 b rb m h).2) n h0 h1 k hk
  obtain ⟨z, z1, z2⟩ := has_jn L l1 (fun m h => by
    rw [l2] at h
    simp at h
    omega) n h0 h1 k hk
  rw [e1, Option.bind_some, e2, Option.bind_some, e3, Option.bind_some, u1, Option.bind_some, v1, Option.bind_some, z1, Option.bind_some]
  rw [if_pos ⟨fun h => ⟨(u2 h).1, by rw [(u2 h).2, j2]⟩, fun h => ⟨(v2 h).1, by rw [(v2 h).2, k2]⟩, fun h => ⟨(z2 h).1, by rw [(z2 h).2, l2, decide_eq_true h0, decide_eq_true h1]; rfl⟩⟩]
theorem end_ok (l : List Sg) (n : Int) (k : Nat) (hk : 1100000 ≤ k) : wh_end k l n = some true := by
  unfold wh_end
  rcases make_eq l k (by omega) with ⟨h, e⟩ | ⟨h, h2, e⟩ | ⟨h, h2, J, j1, j2, e⟩
  · rw [e, Option.bind_some, if_pos (.inl (by decide))]
  · rw [e, Option.bind_some, if_pos (.inl (by decide))]
  · rw [e, Option.bind_some]
    by_cases c : (jn J).2 ≠ 0 ∨ n < 0 ∨ n ≥ 10080
    · rw [if_pos c]
    · have h0 : 0 ≤ n := by omega
      have h1 : n < 10080 := by omega
      obtain ⟨v, v1, v2⟩ := has_jn J j1 (fun m hm => by
        rw [j2, Bool.and_eq_true, Bool.and_eq_true, decide_eq_true_eq, decide_eq_true_eq] at hm
        exact hm.1.2) n h0 h1 k hk
      have hz : (jn J).2 = 0 := by omega
      rw [if_neg c, v1, Option.bind_some, if_pos ⟨(v2 hz).1, by rw [(v2 hz).2, j2, wh_any_eq, decide_eq_true h0, decide_eq_true h1]; rfl⟩]
theorem pure_WeekHas : bellmanlaw07_WeekHas.PureU := by
  intro a b l n _ _ _ _ hsz
  rw [sum_ones5, sum_ones5, sum_ones5] at hsz
  have ha : a.length ≤ 1000000 := by omega
  have hb : b.length ≤ 1000000 := by omega
  obtain ⟨k, hk⟩ : ∃ k : Nat, k = 1200000 := ⟨_, rfl⟩
  refine ⟨k, ?_⟩
  unfold bellmanlaw07_WeekHas.f
  rw [lives_ok k (by omega), Option.bind_some, if_pos rfl, has_eq a ha n k (by omega), Option.bind_some, has_eq b hb n k (by omega), Option.bind_some]
  have hmid : (if (if rightB a = true then (if 0 ≤ n ∧ n < 10080 then (had (prs a) n, (0 : Int)) else (false, 1)) else (false, 2)).2 = 0 ∧ (if rightB b = true then (if 0 ≤ n ∧ n < 10080 then (had (prs b) n, (0 : Int)) else (false, 1)) else (false, 2)).2 = 0 then wh_mid k a b n (if rightB a = true then (if 0 ≤ n ∧ n < 10080 then (had (prs a) n, (0 : Int)) else (false, 1)) else (false, 2)).1 (if rightB b = true then (if 0 ≤ n ∧ n < 10080 then (had (prs b) n, (0 : Int)) else (false, 1)) else (false, 2)).1 else some ()) = some () := by
    by_cases c : 0 ≤ n ∧ n < 10080
    · cases ra : rightB a with
      | false => rw [if_neg (by simp)]
      | true =>
        cases rb : rightB b with
        | false => rw [if_neg (by simp)]
        | true =>
          simp only [if_pos c, if_true]
          rw [if_pos (by first | trivial | (constructor <;> first | trivial | rfl))]
          exact mid_ok a b ha hb ra rb n c.1 c.2 k (by omega)
    · rw [if_neg (by
        simp only [if_neg c]
        cases rightB a <;> simp)]
  rw [hmid, Option.bind_some]
  exact end_ok l n k (by omega)
end Go.Proofs.Ytlnadfhhgcpkpaa.XW
namespace Go.Proofs.Ytlnadfhhgcpkpaa.Pure
theorem WeekHas : XW.bellmanlaw07_WeekHas.PureU := XW.pure_WeekHas
end Go.Proofs.Ytlnadfhhgcpkpaa.Pure
