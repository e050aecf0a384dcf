-- by a program of this session
import Derived.Test.YtlnadfhhgcpkpaaQWeekN
import Derived.Test.YtlnadfhhgcpkpaaXW8
import Derived.Test.YtlnadfhhgcpkpaaXW9
import Derived.Test.YtlnadfhhgcpkpaaXW5
set_option linter.unusedVariables false
set_option linter.unusedSimpArgs false
/-! The document's weeks: right ones, their minutes, and the week of minutes. -/
namespace Go.Proofs.Ytlnadfhhgcpkpaa.XW
open Go.RowKit Go.Proofs.YtlnadfhhgcpkpaaW.PrintWords Go.Proofs.YtlnadfhhgcpkpaaW.PrintLast Go.Proofs.YtlnadfhhgcpkpaaW.PrintMore Go.Proofs.Ytlnadfhhgcpkpaa.Wk
theorem rcheck_l0 (l : List Sg) (hl : l.length ≤ 64) : ∀ (m k i : Nat) (last : Int), i + m = l.length → m + 1 ≤ k → -1 ≤ last → (i = 0 → last = -1) → (∀ (h : i - 1 < l.length), 0 < i → last = (l[i - 1]).f1) → bellmanref07_Check.l0 k l l (l.length : Int) (i : Int) = some (if okB last (l.drop i) = true then 0 else 2)
  | 0, k, i, last, h, hk, _, _, _ => by
    obtain ⟨k, rfl⟩ : ∃ m, k = m + 1 := ⟨k - 1, by omega⟩
    rw [bellmanref07_Check.l0, if_neg (by omega), List.drop_of_length_le (by omega)]
    rfl
  | m + 1, k, i, last, h, hk, hl1, h0, h1 => by
    obtain ⟨k, rfl⟩ : ∃ m, k = m + 1 := ⟨k - 1, by omega⟩
    have hi : i < l.length := by omega
    have ih := fun (hf : -1 ≤ l[i].f1) => rcheck_l0 l hl m k (i + 1) l[i].f1 (by omega) (by omega) hf (by omega) (fun _ _ => rfl)
    rw [bellmanref07_Check.l0, if_pos (by omega), if_pos (by omega), if_pos (by omega), rd_eq l i hi, List.drop_eq_getElem_cons hi, okB]
    by_cases c1 : l[i].f0 < 0
    · rw [if_pos c1, decide_eq_false (show ¬ last < l[i].f0 by omega)]; rfl
    · rw [if_neg c1]
      by_cases c2 : l[i].f1 > 10080
      · rw [if_pos c2, decide_eq_false (show ¬ l[i].f1 ≤ 10080 by omega)]; simp
      · rw [if_neg c2, decide_eq_true (show l[i].f1 ≤ 10080 by omega)]
        by_cases c3 : l[i].f0 ≥ l[i].f1
        · rw [if_pos c3, decide_eq_false (show ¬ l[i].f0 < l[i].f1 by omega)]; simp
        · rw [if_neg c3, decide_eq_true (show l[i].f0 < l[i].f1 by omega), wrap_k i (by omega)]
          by_cases c4 : (i : Int) > 0
          · have hw : wrap64 ((i : Int) - 1) = ((i - 1 : Nat) : Int) := by unfold wrap64; omega
            rw [if_pos c4, hw, if_pos (by omega), if_pos (by omega), rd_eq l (i - 1) (by omega), ← h1 (by omega) (by omega)]
            by_cases c5 : l[i].f0 ≤ last
            · rw [if_pos c5, decide_eq_false (show ¬ last < l[i].f0 by omega)]; simp
            · rw [if_neg c5, decide_eq_true (show last < l[i].f0 by omega), ih (by omega)]; simp
          · rw [if_neg c4, decide_eq_true (show last < l[i].f0 by have := h0 (by omega); omega), ih (by omega)]; simp
theorem rcheck_eq (l : List Sg) (k : Nat) (hk : 100 ≤ k) : bellmanref07_Check.f k l = some (if rightB l = true then 0 else 2) := by
  unfold bellmanref07_Check.f rightB
  by_cases c : (l.length : Int) > 64
  · rw [if_pos c, decide_eq_false (show ¬ l.length ≤ 64 by omega), Bool.and_false]; rfl
  · rw [if_neg c, decide_eq_true (show l.length ≤ 64 by omega), Bool.and_true]
    exact rcheck_l0 l (by omega) l.length k 0 (-1) (by omega) (by omega) (by omega) (by omega) (by omega)
/-! ### Minutes -/
theorem getD_set (M : List Bool) (a j : Nat) (v : Bool) (h : a < M.length) : (M.set a v).getD j false = if a = j then v else M.getD j false := by
  rw [List.getD_eq_getElem?_getD, List.getD_eq_getElem?_getD, List.getElem?_set]
  by_cases c : a = j
  · rw [if_pos c, if_pos c, if_pos h]; rfl
  · rw [if_neg c, if_neg c]
def setr (M : List Bool) (a : Nat) : Nat → List Bool
  | 0 => M
  | m + 1 => setr (M.set a true) (a + 1) m
theorem setr_len (m : Nat) : ∀ (M : List Bool) (a : Nat), (setr M a m).length = M.length := by
  induction m with
  | zero => intro M a; rfl
  | succ m ih => intro M a; show (setr (M.set a true) (a + 1) m).length = _; rw [ih, List.length_set]
theorem setr_get (m : Nat) : ∀ (M : List Bool) (a j : Nat), a + m ≤ M.length → (setr M a m).getD j false = (M.getD j false || (decide (a ≤ j) && decide (j < a + m))) := by
  induction m with
  | zero =>
    intro M a j _
    show M.getD j false = _
    rw [Bool.eq_iff_iff]
    simp
    omega
  | succ m ih =>
    intro M a j h
    show (setr (M.set a true) (a + 1) m).getD j false = _
    rw [ih _ _ _ (by rw [List.length_set]; omega), getD_set _ _ _ _ (by omega)]
    by_cases c : a = j
    · subst c
      rw [if_pos rfl, decide_eq_true (show a ≤ a by omega), decide_eq_true (show a < a + (m + 1) by omega)]
      simp
    · rw [if_neg c]
      congr 1
      rw [Bool.eq_iff_iff]
      simp
      omega
theorem minutes_l1 (l : List Sg) (i : Int) (f0 : Int) : ∀ (m k a : Nat) (M : List Bool) (f1 : Int), f1 = ((a + m : Nat) : Int) → a + m ≤ M.length → M.length ≤ 10080 → m + 1 ≤ k → bellmanref07_Minutes.l1 k M (a : Int) l (l.length : Int) i f0 f1 = bellmanref07_Minutes.l0 (k - (m + 1)) (setr M a m) l (l.length : Int) (wrap64 (i + 1))
  | 0, k, a, M, f1, h, _, _, hk => by
    obtain ⟨k, rfl⟩ : ∃ m, k = m + 1 := ⟨k - 1, by omega⟩
    rw [bellmanref07_Minutes.l1, if_neg (by omega)]
    rfl
  | m + 1, k, a, M, f1, h, hm, hM, hk => by
    obtain ⟨k, rfl⟩ : ∃ m, k = m + 1 := ⟨k - 1, by omega⟩
    rw [bellmanref07_Minutes.l1, if_pos (by omega), if_pos (by omega), if_pos (by omega), wrap_k a (by omega), Int.toNat_natCast]
    rw [minutes_l1 l i f0 m k (a + 1) (M.set a true) f1 (by omega) (by rw [List.length_set]; omega) (by rw [List.length_set]; exact hM) (by omega)]
    have e : k + 1 - (m + 1 + 1) = k - (m + 1) := by omega
    rw [e]
    rfl
theorem minutes_l0 (l : List Sg) (hl : l.length ≤ 64) (hb : ∀ x ∈ l, 0 ≤ x.f0 ∧ x.f0 < x.f1 ∧ x.f1 ≤ 10080) (N : Nat) (hN : N = 10080) (m : Nat) : ∀ (k i : Nat) (M : List Bool), i + m = l.length → m * 10082 + 1 ≤ k → M.length = N →
    ∃ M' : List Bool, M'.length = N ∧ (∀ j : Nat, j < N → M'.getD j false = (M.getD j false || had (prs (l.drop i)) (j : Int))) ∧ bellmanref07_Minutes.l0 k M l (l.length : Int) (i : Int) = some M' := by
  induction m with
  | zero =>
    intro k i M h hk hM
    obtain ⟨k, rfl⟩ : ∃ m, k = m + 1 := ⟨k - 1, by omega⟩
    refine ⟨M, hM, fun j _ => ?_, ?_⟩
    · rw [List.drop_of_length_le (by omega)]; simp [prs, had]
    · rw [bellmanref07_Minutes.l0, if_neg (by omega)]
  | succ m ih =>
    intro k i M h hk hM
    obtain ⟨k, rfl⟩ : ∃ m, k = m + 1 := ⟨k - 1, by omega⟩
    have hi : i < l.length := by omega
    obtain ⟨b1, b2, b3⟩ := hb l[i] (List.getElem_mem hi)
    rw [bellmanref07_Minutes.l0, if_pos (by omega), if_pos (by omega), if_pos (by omega), rd_eq l i hi]
    have hd : prs (l.drop i) = pr l[i] :: prs (l.drop (i + 1)) := by rw [List.drop_eq_getElem_cons hi, prs_cons]
    generalize l[i] = x at *
    obtain ⟨a, ha⟩ : ∃ a : Nat, x.f0 = (a : Int) := ⟨x.f0.toNat, by omega⟩
    obtain ⟨n, hn⟩ : ∃ n : Nat, x.f1 = ((a + n : Nat) : Int) := ⟨(x.f1 - x.f0).toNat, by omega⟩
    have hnk : n + 1 ≤ k := by
      have e1 : (m + 1) * 10082 = m * 10082 + 10082 := Nat.succ_mul m 10082
      rw [e1] at hk
      clear e1 ih
      generalize m * 10082 = Z at *
      omega
    rw [ha, minutes_l1 l i a n k a M x.f1 hn (by omega) (by omega) hnk, wrap_k i (by omega)]
    have hk2 : m * 10082 + 1 ≤ k - (n + 1) := by
      have e1 : (m + 1) * 10082 = m * 10082 + 10082 := Nat.succ_mul m 10082
      rw [e1] at hk
      clear e1 ih
      generalize m * 10082 = Z at *
      omega
    obtain ⟨M', g1, g2, g3⟩ := ih (k - (n + 1)) (i + 1) (setr M a n) (by omega) hk2 (by rw [setr_len]; exact hM)
    refine ⟨M', g1, fun j hj => ?_, g3⟩
    rw [g2 j hj, setr_get _ _ _ _ (by omega), hd, had_cons, Bool.or_assoc]
    congr 2
    show (decide (a ≤ j) && decide (j < a + n)) = (decide (x.f0 ≤ (j : Int)) && decide ((j : Int) < x.f1))
    rw [Bool.eq_iff_iff]
    simp
    omega
theorem minutes_eq (l : List Sg) (hr : rightB l = true) (k : Nat) (hk : 700000 ≤ k) : ∃ M : List Bool, M.length = 10080 ∧ (∀ j : Nat, j < 10080 → M.getD j false = had (prs l) (j : Int)) ∧ bellmanref07_Minutes.f k l = some M := by
  obtain ⟨_, _, h3⟩ := right_nrm l hr
  obtain ⟨N, hN⟩ : ∃ N : Nat, N = 10080 := ⟨_, rfl⟩
  obtain ⟨M, g1, g2, g3⟩ := minutes_l0 l h3 (right_bounds l hr) N hN l.length k 0 (List.replicate N false) (by omega) (by omega) List.length_replicate
  refine ⟨M, by omega, fun j hj => ?_, ?_⟩
  · rw [g2 j (by omega), List.drop_zero, List.getD_eq_getElem?_getD, List.getElem?_replicate, if_pos (by omega)]
    rfl
  · unfold bellmanref07_Minutes.f
    rw [if_pos (by decide), ← hN]
    exact g3
/-! ### The week of minutes -/
theorem of_l0 (M : List Bool) (hM : M.length ≤ 10080) : ∀ (m k i : Nat) (out : List Rg), i + m = M.length → m + 1 ≤ k → out.length ≤ i → bellmanref07_of.l0 k (out.map mk) M (M.length : Int) (i : Int) = some (jn (ofg out (i : Int) (M.drop i)))
  | 0, k, i, out, h, hk, ho => by
    obtain ⟨k, rfl⟩ : ∃ m, k = m + 1 := ⟨k - 1, by omega⟩
    rw [bellmanref07_of.l0, if_neg (by omega), List.drop_of_length_le (by omega)]
    show _ = some (jn out)
    unfold jn
    rw [List.length_map]
    by_cases c : out.length ≤ 64
    · rw [if_neg (by omega), if_pos c]
    · rw [if_pos (by omega), if_neg c]
  | m + 1, k, i, out, h, hk, ho => by
    obtain ⟨k, rfl⟩ : ∃ m, k = m + 1 := ⟨k - 1, by omega⟩
    have hi : i < M.length := by omega
    have hrd : rdOf false M (i : Int) = M[i] := by
      unfold rdOf
      rw [Int.toNat_natCast, List.getD_eq_getElem?_getD, List.getElem?_eq_getElem hi]; rfl
    have hs : ofg out (i : Int) (M.drop i) = ofg (if M[i] = true then ext out (i : Int) else out) ((i + 1 : Nat) : Int) (M.drop (i + 1)) := by
      rw [List.drop_eq_getElem_cons hi]; rfl
    rw [bellmanref07_of.l0, if_pos (by omega), if_pos (by omega), if_pos (by omega), hrd, hs, wrap_k i (by omega)]
    by_cases c : M[i] = true
    · rw [if_pos c, if_pos c]
      rcases nil_or_snoc out with rfl | ⟨l, y, rfl⟩
      · rw [if_neg (by simp), if_pos (by simp), ext_nil]
        exact of_l0 M hM m k (i + 1) [((i : Int), (i : Int) + 1)] (by omega) (by omega) (by simp)
      · rw [List.length_append, List.length_singleton] at ho
        have hlen : ((l ++ [y]).map mk).length = l.length + 1 := by simp
        have hw : wrap64 ((((l ++ [y]).map mk).length : Int) - 1) = (l.length : Int) := by rw [hlen]; unfold wrap64; omega
        have hr2 : rd_T38 ((l ++ [y]).map mk) (l.length : Int) = mk y := by
          rw [rd_eq _ _ (by rw [hlen]; omega), List.getElem_map]
          congr 1
          simp
        rw [if_pos (by rw [hlen]; omega), hw, if_pos (by omega), if_pos (by rw [hlen]; omega), hr2, ext_snoc]
        by_cases c2 : y.2 = (i : Int)
        · have hset : ((l ++ [y]).map mk).set ((l.length : Int)).toNat (⟨(mk y).f0, ((i + 1 : Nat) : Int)⟩ : S38) = (l ++ [(y.1, (i : Int) + 1)]).map mk := by
            rw [Int.toNat_natCast, List.map_append, List.map_append, List.set_append_right _ _ (by simp)]
            simp [mk]
          rw [if_pos (show (mk y).f1 = (i : Int) from c2), if_pos c2, hset]
          exact of_l0 M hM m k (i + 1) _ (by omega) (by omega) (by rw [List.length_append, List.length_singleton]; omega)
        · have ha : (l ++ [y]).map mk ++ [(⟨(i : Int), ((i + 1 : Nat) : Int)⟩ : S38)] = (l ++ [y] ++ [((i : Int), (i : Int) + 1)]).map mk := by rw [List.map_append (l₁ := l ++ [y])]; rfl
          rw [if_neg (show ¬ (mk y).f1 = (i : Int) from c2), if_neg c2, if_pos (by rw [hlen]; omega), ha]
          exact of_l0 M hM m k (i + 1) _ (by omega) (by omega) (by rw [List.length_append, List.length_append, List.length_singleton, List.length_singleton]; omega)
    · rw [if_neg c, if_neg c]
      exact of_l0 M hM m k (i + 1) out (by omega) (by omega) (by omega)
theorem of_eq (M : List Bool) (hM : M.length = 10080) (k : Nat) (hk : 10100 ≤ k) (p : Int → Bool) (hp : ∀ j : Nat, j < 10080 → M.getD j false = p (j : Int)) : ∃ J : List Rg, nrm (-1) J ∧ (∀ m, had J m = (decide (0 ≤ m) && decide (m < 10080) && p m)) ∧ bellmanref07_of.f k M = some (jn J) := by
  obtain ⟨g1, _, g3⟩ := ofg_inv p M [] 0 (by omega) trivial (by decide) (fun m => by
    rw [had_nil]
    by_cases c : 0 ≤ m
    · rw [decide_eq_false (show ¬ m < 0 by omega)]; simp
    · rw [decide_eq_false c]; simp) (fun j h => by
    rw [Int.zero_add, ← hp j (by omega), List.getD_eq_getElem?_getD, List.getElem?_eq_getElem h]; rfl)
  exact ⟨_, g1, fun m => by rw [g3, hM]; simp, of_l0 M (by omega) M.length k 0 [] (by omega) (by omega) (by simp)⟩
end Go.Proofs.Ytlnadfhhgcpkpaa.XW
