/- For every two lists of ranges within the bound: they are put together as the document says, or are not right. -/
import Derived.Test.YtlnadfhhgcpkpaaUWeekSets
import Derived.Test.YtlnadfhhgcpkpaaQWeekU
import Derived.Test.YtlnadfhhgcpkpaaQWeekA
import Derived.Test.YtlnadfhhgcpkpaaQWeekLives
set_option linter.unusedVariables false
set_option linter.unusedSimpArgs false
namespace Go.Proofs.Ytlnadfhhgcpkpaa.XW
open Go.RowKit Go.Proofs.YtlnadfhhgcpkpaaW.PrintWords Go.Proofs.YtlnadfhhgcpkpaaW.PrintLast Go.Proofs.YtlnadfhhgcpkpaaW.PrintMore Go.Proofs.Ytlnadfhhgcpkpaa.Wk
theorem sum_ones3 {α : Type} (l : List α) : (l.map (fun _ => ((1 + 1) + 1))).sum = 3 * l.length := by
  induction l with
  | nil => rfl
  | cons x l ih => rw [List.map_cons, List.sum_cons, ih, List.length_cons]; omega
theorem rnot_l0 (N : Nat) (hN : N ≤ 20000) (m : Nat) : ∀ (k i : Nat) (M : List Bool), i + m = N → m + 1 ≤ k → M.length = N → bellmanref07_Not.l0 k M (N : Int) (i : Int) = (bellmanref07_of.f (k - (m + 1)) (upd (fun _ b => !b) M i m)).bind fun bt => some (bt.1, bt.2) := by
  induction m with
  | zero =>
    intro k i M h hk hM
    obtain ⟨k, rfl⟩ : ∃ m, k = m + 1 := ⟨k - 1, by omega⟩
    rw [bellmanref07_Not.l0, if_neg (by omega)]
    rfl
  | succ m ih =>
    intro k i M h hk hM
    obtain ⟨k, rfl⟩ : ∃ m, k = m + 1 := ⟨k - 1, by omega⟩
    have e : k + 1 - (m + 1 + 1) = k - (m + 1) := by omega
    rw [bellmanref07_Not.l0, if_pos (by omega), if_pos (by omega), if_pos (by omega), rdOf_nat, Int.toNat_natCast, wrap_k i (by omega), ih k (i + 1) _ (by omega) (by omega) (by rw [List.length_set]; exact hM), e]
    rfl
theorem rand_l0 (B : List Bool) (N : Nat) (hN : N ≤ 20000) (hB : B.length = N) (m : Nat) : ∀ (k i : Nat) (M : List Bool), i + m = N → m + 1 ≤ k → M.length = N → bellmanref07_And.l0 k M B (N : Int) (i : Int) = (bellmanref07_of.f (k - (m + 1)) (upd (fun j b => b && B.getD j false) M i m)).bind fun bt => some (bt.1, bt.2) := by
  induction m with
  | zero =>
    intro k i M h hk hM
    obtain ⟨k, rfl⟩ : ∃ m, k = m + 1 := ⟨k - 1, by omega⟩
    rw [bellmanref07_And.l0, if_neg (by omega)]
    rfl
  | succ m ih =>
    intro k i M h hk hM
    obtain ⟨k, rfl⟩ : ∃ m, k = m + 1 := ⟨k - 1, by omega⟩
    have e : k + 1 - (m + 1 + 1) = k - (m + 1) := by omega
    have hs : bellmanref07_And.l0 (k + 1) M B (N : Int) (i : Int) = bellmanref07_And.l0 k (M.set i (M.getD i false && B.getD i false)) B (N : Int) ((i + 1 : Nat) : Int) := by
      rw [bellmanref07_And.l0, if_pos (by omega), if_pos (by omega), if_pos (by omega), rdOf_nat, rdOf_nat, Int.toNat_natCast, wrap_k i (by omega)]
      cases M.getD i false with
      | true => rw [if_pos rfl, if_pos (by omega), Bool.true_and]
      | false => rw [if_neg (by decide), Bool.false_and]
    rw [hs, ih k (i + 1) _ (by omega) (by omega) (by rw [List.length_set]; exact hM), e]
    rfl
theorem ror_l0 (B : List Bool) (N : Nat) (hN : N ≤ 20000) (hB : B.length = N) (m : Nat) : ∀ (k i : Nat) (M : List Bool), i + m = N → m + 1 ≤ k → M.length = N → bellmanref07_Or.l0 k M B (N : Int) (i : Int) = (bellmanref07_of.f (k - (m + 1)) (upd (fun j b => b || B.getD j false) M i m)).bind fun bt => some (bt.1, bt.2) := by
  induction m with
  | zero =>
    intro k i M h hk hM
    obtain ⟨k, rfl⟩ : ∃ m, k = m + 1 := ⟨k - 1, by omega⟩
    rw [bellmanref07_Or.l0, if_neg (by omega)]
    rfl
  | succ m ih =>
    intro k i M h hk hM
    obtain ⟨k, rfl⟩ : ∃ m, k = m + 1 := ⟨k - 1, by omega⟩
    have e : k + 1 - (m + 1 + 1) = k - (m + 1) := by omega
    have hs : bellmanref07_Or.l0 (k + 1) M B (N : Int) (i : Int) = bellmanref07_Or.l0 k (M.set i (M.getD i false || B.getD i false)) B (N : Int) ((i + 1 : Nat) : Int) := by
      rw [bellmanref07_Or.l0, if_pos (by omega), if_pos (by omega), if_pos (by omega), rdOf_nat, rdOf_nat, Int.toNat_natCast, wrap_k i (by omega)]
      cases M.getD i false with
      | true => rw [if_pos rfl, Bool.true_or]
      | false => rw [if_neg (by decide), if_pos (by omega), Bool.false_or]
    rw [hs, ih k (i + 1) _ (by omega) (by omega) (by rw [List.length_set]; exact hM), e]
    rfl
theorem not_both (a : List Sg) (ha : a.length ≤ 1000000) (k : Nat) (hk : 1100000 ≤ k) : ∃ x : List Sg × Int, x.1.length ≤ 64 ∧ week_Not.f k a = some x ∧ bellmanref07_Not.f k a = some x := by
  unfold bellmanref07_Not.f
  rw [rcheck_eq a k (by omega), Option.bind_some]
  rcases weeknot_eq a ha k (by omega) with ⟨hr, e⟩ | ⟨hr, J, h1, h2, e⟩
  · refine ⟨([], 2), by simp, e, ?_⟩
    rw [hr]
    rfl
  · obtain ⟨M, m1, m2, m3⟩ := minutes_eq a hr k (by omega)
    obtain ⟨N, hN⟩ : ∃ N : Nat, N = 10080 := ⟨_, rfl⟩
    refine ⟨jn J, jn_len J, e, ?_⟩
    rw [if_pos hr, if_pos rfl, m3, Option.bind_some, m1, ← hN]
    have hl := rnot_l0 N (by omega) N k 0 M (by omega) (by omega) (by omega)
    obtain ⟨K, k1, k2, k3⟩ := of_eq (upd (fun _ b => !b) M 0 N) (by rw [upd_len, m1]) (k - (N + 1)) (by omega) (fun m => !had (prs a) m) (fun j hj => by
      rw [upd_get _ _ _ _ _ (by omega), if_pos (by omega), m2 j hj])
    rw [k3] at hl
    rw [jn_eq J K h1 k1 (fun m => by rw [h2, k2])]
    exact hl
theorem and_both (a b : List Sg) (ha : a.length ≤ 1000000) (hb : b.length ≤ 1000000) (k : Nat) (hk : 1100000 ≤ k) : ∃ x : List Sg × Int, x.1.length ≤ 64 ∧ week_And.f k a b = some x ∧ bellmanref07_And.f k a b = some x := by
  unfold bellmanref07_And.f
  obtain ⟨k', rfl⟩ : ∃ m, k = m + 1 := ⟨k - 1, by omega⟩
  rw [rcheck_eq a (k' + 1) (by omega), Option.bind_some, rcheck_eq b (k' + 1) (by omega), Option.bind_some]
  rcases and_eq a b ha hb (k' + 1) (by omega) with ⟨hr, e⟩ | ⟨hr, J, h1, h2, e⟩
  · refine ⟨([], 2), by simp, e, ?_⟩
    cases c1 : rightB a with
    | false => rw [if_neg (by decide), bellmanref07_And.j0]; rfl
    | true =>
      rw [c1, Bool.true_and] at hr
      rw [hr, if_pos rfl, if_pos rfl, bellmanref07_And.j0]
      rfl
  · rw [Bool.and_eq_true] at hr
    obtain ⟨M, m1, m2, m3⟩ := minutes_eq a hr.1 k' (by omega)
    obtain ⟨B, b1, b2, b3⟩ := minutes_eq b hr.2 k' (by omega)
    obtain ⟨N, hN⟩ : ∃ N : Nat, N = 10080 := ⟨_, rfl⟩
    refine ⟨jn J, jn_len J, e, ?_⟩
    rw [if_pos hr.1, if_pos rfl, if_pos hr.2, bellmanref07_And.j0, if_neg (by decide), m3, Option.bind_some, b3, Option.bind_some, m1, ← hN]
    have hl := rand_l0 B N (by omega) (by omega) N k' 0 M (by omega) (by omega) (by omega)
    obtain ⟨K, k1, k2, k3⟩ := of_eq (upd (fun j b => b && B.getD j false) M 0 N) (by rw [upd_len, m1]) (k' - (N + 1)) (by omega) (fun m => had (prs a) m && had (prs b) m) (fun j hj => by
      rw [upd_get _ _ _ _ _ (by omega), if_pos (by omega), m2 j hj, b2 j hj])
    rw [k3] at hl
    rw [jn_eq J K h1 k1 (fun m => by
      rw [h2, k2]
      cases hA : had (prs a) m with
      | false => simp
      | true =>
        obtain ⟨u, v⟩ := had_wk a hr.1 m hA
        rw [decide_eq_true u, decide_eq_true v]; rfl)]
    exact hl
theorem or_both (a b : List Sg) (ha : a.length ≤ 1000000) (hb : b.length ≤ 1000000) (k : Nat) (hk : 1100000 ≤ k) : ∃ x : List Sg × Int, x.1.length ≤ 64 ∧ week_Or.f k a b = some x ∧ bellmanref07_Or.f k a b = some x := by
  unfold bellmanref07_Or.f
  obtain ⟨k', rfl⟩ : ∃ m, k = m + 1 := ⟨k - 1, by omega⟩
  rw [rcheck_eq a (k' + 1) (by omega), Option.bind_some, rcheck_eq b (k' + 1) (by omega), Option.bind_some]
  rcases or_eq a b ha hb (k' + 1) (by omega) with ⟨hr, e⟩ | ⟨hr, J, h1, h2, e⟩
  · refine ⟨([], 2), by simp, e, ?_⟩
    cases c1 : rightB a with
    | false => rw [if_neg (by decide), bellmanref07_Or.j0]; rfl
    | true =>
      rw [c1, Bool.true_and] at hr
      rw [hr, if_pos rfl, if_pos rfl, bellmanref07_Or.j0]
      rfl
  · rw [Bool.and_eq_true] at hr
    obtain ⟨M, m1, m2, m3⟩ := minutes_eq a hr.1 k' (by omega)
    obtain ⟨B, b1, b2, b3⟩ := minutes_eq b hr.2 k' (by omega)
    obtain ⟨N, hN⟩ : ∃ N : Nat, N = 10080 := ⟨_, rfl⟩
    refine ⟨jn J, jn_len J, e, ?_⟩
    rw [if_pos hr.1, if_pos rfl, if_pos hr.2, bellmanref07_Or.j0, if_neg (by decide), m3, Option.bind_some, b3, Option.bind_some, m1, ← hN]
    have hl := ror_l0 B N (by omega) (by omega) N k' 0 M (by omega) (by omega) (by omega)
    obtain ⟨K, k1, k2, k3⟩ := of_eq (upd (fun j b => b || B.getD j false) M 0 N) (by rw [upd_len, m1]) (k' - (N + 1)) (by omega) (fun m => had (prs a) m || had (prs b) m) (fun j hj => by
      rw [upd_get _ _ _ _ _ (by omega), if_pos (by omega), m2 j hj, b2 j hj])
    rw [k3] at hl
    rw [jn_eq J K h1 k1 (fun m => by
      rw [h2, k2]
      cases hA : (had (prs a) m || had (prs b) m) with
      | false => simp
      | true =>
        have huv : 0 ≤ m ∧ m < 10080 := by
          rcases Bool.or_eq_true_iff.mp hA with h | h
          · exact had_wk a hr.1 m h
          · exact had_wk b hr.2 m h
        rw [decide_eq_true huv.1, decide_eq_true huv.2]; rfl)]
    exact hl
theorem pure_WeekSets : bellmanlaw07_WeekSets.PureU := by
  intro a b _ _ hsz
  rw [sum_ones3, sum_ones3] at hsz
  have ha : a.length ≤ 1000000 := by omega
  have hb : b.length ≤ 1000000 := by omega
  refine ⟨1200000, ?_⟩
  obtain ⟨x, x1, x2, x3⟩ := not_both a ha 1200000 (by omega)
  obtain ⟨y, y1, y2, y3⟩ := and_both a b ha hb 1200000 (by omega)
  obtain ⟨z, z1, z2, z3⟩ := or_both a b ha hb 1200000 (by omega)
  unfold bellmanlaw07_WeekSets.f
  rw [x2, Option.bind_some, x3, Option.bind_some, y2, Option.bind_some, y3, Option.bind_some, z2, Option.bind_some, z3, Option.bind_some, lives_ok 1200000 (by omega), Option.bind_some, if_pos rfl,
    same_eq x.1 (by omega) 1200000 (by omega), Option.bind_some, if_pos rfl, if_pos rfl, same_eq y.1 (by omega) 1200000 (by omega), Option.bind_some, if_pos rfl, if_pos rfl, same_eq z.1 (by omega) 1200000 (by omega), Option.bind_some, if_pos rfl, beq_self_eq_true]
end Go.Proofs.Ytlnadfhhgcpkpaa.XW
namespace Go.Proofs.Ytlnadfhhgcpkpaa.Pure
theorem WeekSets : XW.bellmanlaw07_WeekSets.PureU := XW.pure_WeekSets
end Go.Proofs.Ytlnadfhhgcpkpaa.Pure
