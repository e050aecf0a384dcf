/- For every two lists of ranges, a number and a bool within the bound: the ranges are the week that the document says, or none; the week has the minutes, and its next one is as far, as it says. -/
import Derived.Test.YtlnadfhhgcpkpaaUWeekMakes
import Derived.Test.YtlnadfhhgcpkpaaQWeekU
import Derived.Test.YtlnadfhhgcpkpaaQWeekLives
set_option linter.unusedVariables false
set_option linter.unusedSimpArgs false
namespace Go.Proofs.Ytlnadfhhgcpkpaa.XW
open Go.RowKit Go.Proofs.YtlnadfhhgcpkpaaW.PrintWords Go.Proofs.YtlnadfhhgcpkpaaW.PrintLast Go.Proofs.YtlnadfhhgcpkpaaW.PrintMore Go.Proofs.Ytlnadfhhgcpkpaa.Wk
theorem sum_ones4 {α : Type} (l : List α) : (l.map (fun _ => ((1 + 1) + 1))).sum = 3 * l.length := by
  induction l with
  | nil => rfl
  | cons x l ih => rw [List.map_cons, List.sum_cons, ih, List.length_cons]; omega
/-! ### Make -/
def rtail (k : Nat) (l : List Sg) : Option (List Sg × Int) :=
  if (l.length : Int) > 64 then (some (([] : List Sg), 12)) else (if 10080 ≤ 281474976710656 then (bellmanref07_Make.l1 k (List.replicate 10080 false) l (l.length : Int) 0) else (none))
theorem rmake_l0 (l : List Sg) (hl : l.length ≤ 1000000) (m : Nat) : ∀ (k i : Nat), i + m = l.length → m + 1 ≤ k → bellmanref07_Make.l0 k l l (l.length : Int) (i : Int) = if (l.drop i).any week_R.off = true then some ([], 1) else rtail (k - (m + 1)) l := by
  induction m with
  | zero =>
    intro k i h hk
    obtain ⟨k, rfl⟩ : ∃ m, k = m + 1 := ⟨k - 1, by omega⟩
    rw [bellmanref07_Make.l0, if_neg (by omega), List.drop_of_length_le (by omega), List.any_nil, if_neg (show ¬ (false = true) by decide)]
    rfl
  | succ m ih =>
    intro k i h hk
    obtain ⟨k, rfl⟩ : ∃ m, k = m + 1 := ⟨k - 1, by omega⟩
    have hi : i < l.length := by omega
    have e : k + 1 - (m + 1 + 1) = k - (m + 1) := by omega
    rw [bellmanref07_Make.l0, if_pos (by omega), if_pos (by omega), if_pos (by omega), rd_eq l i hi, wrap_k i (by omega), ih k (i + 1) (by omega) (by omega), List.drop_eq_getElem_cons hi, List.any_cons, e]
    generalize l[i] = x
    generalize (l.drop (i + 1)).any week_R.off = B
    unfold week_R.off
    by_cases c1 : x.f0 < 0
    · rw [if_pos c1]; simp [c1]
    · rw [if_neg c1]
      by_cases c2 : x.f1 < 0
      · rw [if_pos c2]; simp [c2]
      · rw [if_neg c2]
        by_cases c3 : x.f0 > 10080
        · rw [if_pos c3]; simp [c3]
        · rw [if_neg c3]
          by_cases c4 : x.f1 > 10080
          · rw [if_pos c4]; simp [c4]
          · rw [if_neg c4]; simp [c1, c2, show ¬ 10080 < x.f0 from c3, show ¬ 10080 < x.f1 from c4]
theorem rmake_l2 (l : List Sg) (i : Int) (x : Sg) (N : Nat) (hN : N ≤ 20000) (m : Nat) : ∀ (k j : Nat) (M : List Bool), j + m = N → m + 1 ≤ k → M.length = N → bellmanref07_Make.l2 k M l (l.length : Int) i (N : Int) (j : Int) x.f0 x.f1 = bellmanref07_Make.l1 (k - (m + 1)) (upd (fun j b => b || inB x (j : Int)) M j m) l (l.length : Int) (wrap64 (i + 1)) := by
  induction m with
  | zero =>
    intro k j M h hk hM
    obtain ⟨k, rfl⟩ : ∃ m, k = m + 1 := ⟨k - 1, by omega⟩
    rw [bellmanref07_Make.l2, if_neg (by omega)]
    rfl
  | succ m ih =>
    intro k j M h hk hM
    obtain ⟨k, rfl⟩ : ∃ m, k = m + 1 := ⟨k - 1, by omega⟩
    have e : k + 1 - (m + 1 + 1) = k - (m + 1) := by omega
    have hj : j < M.length := by omega
    have hs : bellmanref07_Make.l2 (k + 1) M l (l.length : Int) i (N : Int) (j : Int) x.f0 x.f1 = bellmanref07_Make.l2 k (M.set j (M.getD j false || inB x (j : Int))) l (l.length : Int) i (N : Int) ((j + 1 : Nat) : Int) x.f0 x.f1 := by
      rw [bellmanref07_Make.l2, if_pos (by omega), wrap_k j (by omega), Int.toNat_natCast]
      have hj0 : (0 : Int) ≤ (j : Int) := by omega
      have hj1 : (j : Int) < (M.length : Int) := by omega
      have hself := set_self M j hj
      unfold inB
      by_cases c1 : x.f0 ≤ x.f1
      · simp only [if_neg (show ¬ x.f0 > x.f1 by omega), if_pos c1]
        by_cases c2 : (j : Int) ≥ x.f0
        · rw [if_pos c2, decide_eq_true (show x.f0 ≤ (j : Int) from c2)]
          by_cases c3 : (j : Int) < x.f1
          · rw [if_pos c3, if_pos hj0, if_pos hj1, decide_eq_true c3, Bool.true_and, Bool.or_true]
          · rw [if_neg c3, decide_eq_false c3, Bool.and_false, Bool.or_false, hself]
        · rw [if_neg c2, decide_eq_false (show ¬ x.f0 ≤ (j : Int) from c2), Bool.false_and, Bool.or_false, hself]
      · simp only [if_pos (show x.f0 > x.f1 by omega), if_neg c1]
        by_cases c2 : (j : Int) ≥ x.f0
        · rw [if_pos c2, if_pos hj0, if_pos hj1, decide_eq_true (show x.f0 ≤ (j : Int) from c2), Bool.true_or, Bool.or_true]
        · rw [if_neg c2, decide_eq_false (show ¬ x.f0 ≤ (j : Int) from c2), Bool.false_or]
          by_cases c3 : (j : Int) < x.f1
          · rw [if_pos c3, if_pos hj0, if_pos hj1, decide_eq_true c3, Bool.or_true]
          · rw [if_neg c3, decide_eq_false c3, Bool.or_false, hself]
    rw [hs, ih k (j + 1) _ (by omega) (by omega) (by rw [List.length_set]; exact hM), e]
    rfl
theorem rmake_l1 (l : List Sg) (hl : l.length ≤ 64) (N : Nat) (hN : N = 10080) (m : Nat) : ∀ (k i : Nat) (M : List Bool), i + m = l.length → m * 10082 + 1 ≤ k → M.length = N →
    ∃ (k' : Nat) (M' : List Bool), k ≤ k' + (m * 10082 + 1) ∧ M'.length = N ∧ (∀ j : Nat, j < N → M'.getD j false = (M.getD j false || (l.drop i).any (fun x => inB x (j : Int)))) ∧ bellmanref07_Make.l1 k M l (l.length : Int) (i : Int) = (bellmanref07_of.f k' M').bind fun bt => some (bt.1, bt.2) := by
  induction m with
  | zero =>
    intro k i M h hk hM
    obtain ⟨k, rfl⟩ : ∃ m, k = m + 1 := ⟨k - 1, by omega⟩
    refine ⟨k, M, by rw [Nat.zero_mul]; exact Nat.le_refl _, hM, fun j _ => ?_, ?_⟩
    · rw [List.drop_of_length_le (by omega), List.any_nil, Bool.or_false]
    · rw [bellmanref07_Make.l1, if_neg (by omega)]
  | succ m ih =>
    intro k i M h hk hM
    obtain ⟨k, rfl⟩ : ∃ m, k = m + 1 := ⟨k - 1, by omega⟩
    have hi : i < l.length := by omega
    have e1 : (m + 1) * 10082 = m * 10082 + 10082 := Nat.succ_mul m 10082
    rw [e1] at hk ⊢
    have hk2 : m * 10082 + 1 ≤ k - (N + 1) := by
      clear ih e1
      generalize m * 10082 = Z at *
      omega
    have hk3 : N + 1 ≤ k := by
      clear ih e1 hk2
      generalize m * 10082 = Z at *
      omega
    obtain ⟨k', M', g0, g1, g2, g3⟩ := ih (k - (N + 1)) (i + 1) (upd (fun j b => b || inB l[i] (j : Int)) M 0 N) (by omega) hk2 (by rw [upd_len]; exact hM)
    refine ⟨k', M', ?_, g1, fun j hj => ?_, ?_⟩
    · clear ih e1 hk2 g2 g3
      generalize m * 10082 = Z at *
      omega
    · rw [g2 j hj, upd_get _ _ _ _ _ (by omega), if_pos (by omega), List.drop_eq_getElem_cons hi, List.any_cons, Bool.or_assoc]
    · rw [bellmanref07_Make.l1, if_pos (by omega), if_pos (by omega), if_pos (by omega), rd_eq l i hi, hM]
      have := rmake_l2 l (i : Int) l[i] N (by omega) N k 0 M (by omega) hk3 hM
      rw [wrap_k i (by omega), g3] at this
      exact this
theorem make_both (l : List Sg) (hl : l.length ≤ 1000000) (k : Nat) (hk : 2000000 ≤ k) : ∃ x : List Sg × Int, x.1.length ≤ 64 ∧ week_Make.f k l = some x ∧ bellmanref07_Make.f k l = some x := by
  unfold bellmanref07_Make.f
  have h0 := rmake_l0 l hl l.length k 0 (by omega) (by omega)
  rw [List.drop_zero] at h0
  rcases make_eq l k (by omega) with ⟨h, e⟩ | ⟨h, h2, e⟩ | ⟨h, h2, J, j1, j2, e⟩
  · rw [h, if_pos rfl] at h0
    exact ⟨([], 1), by simp, e, h0⟩
  · rw [h, if_neg (by decide)] at h0
    refine ⟨([], 12), by simp, e, h0.trans ?_⟩
    unfold rtail
    rw [if_pos (by omega)]
  · rw [h, if_neg (by decide)] at h0
    refine ⟨jn J, jn_len J, e, h0.trans ?_⟩
    unfold rtail
    obtain ⟨N, hN⟩ : ∃ N : Nat, N = 10080 := ⟨_, rfl⟩
    rw [if_neg (by omega), if_pos (by decide), ← hN]
    have hb : l.length * 10082 ≤ 645248 := Nat.le_trans (Nat.mul_le_mul_right _ h2) (by decide)
    have hb1 : l.length * 10082 + 1 ≤ k - (l.length + 1) := by
      generalize l.length * 10082 = Z at *
      omega
    obtain ⟨k', M', g0, g1, g2, g3⟩ := rmake_l1 l h2 N hN l.length (k - (l.length + 1)) 0 (List.replicate N false) (by omega) hb1 List.length_replicate
    have hk' : 10100 ≤ k' := by
      clear g1 g2 g3 hb1
      generalize l.length * 10082 = Z at *
      omega
    obtain ⟨K, k1, k2, k3⟩ := of_eq M' (by omega) k' hk' (fun m => l.any (fun x => inB x m)) (fun j hj => by
      rw [g2 j (by omega), List.drop_zero, List.getD_eq_getElem?_getD, List.getElem?_replicate, if_pos (by omega)]
      rfl)
    rw [k3] at g3
    rw [jn_eq J K j1 k1 (fun m => by rw [j2, k2])]
    exact g3
/-! ### Has, Sum, Next -/
theorem ris_eq (n : Int) : bellmanref07_is.f n = some (decide (0 ≤ n ∧ n < 10080)) := by
  unfold bellmanref07_is.f
  by_cases c : n ≥ 0
  · rw [if_pos c]; congr 1; rw [decide_eq_decide]; omega
  · rw [if_neg c]; congr 1; rw [eq_comm, decide_eq_false_iff_not]; omega
theorem has_both (w : List Sg) (hw : w.length ≤ 1000000) (n : Int) (k : Nat) (hk : 2000000 ≤ k) : ∃ x : Bool × Int, week_Has.f k w n = some x ∧ bellmanref07_Has.f k w n = some x := by
  refine ⟨_, has_eq w hw n k (by omega), ?_⟩
  unfold bellmanref07_Has.f
  rw [rcheck_eq w k (by omega), Option.bind_some, ris_eq]
  by_cases c : rightB w = true
  · rw [if_pos c, if_pos c, if_pos rfl, Option.bind_some]
    by_cases d : 0 ≤ n ∧ n < 10080
    · obtain ⟨M, m1, m2, m3⟩ := minutes_eq w c k (by omega)
      obtain ⟨j, rfl⟩ : ∃ j : Nat, n = (j : Int) := ⟨n.toNat, by omega⟩
      rw [if_pos d, decide_eq_true d, if_pos rfl, m3, Option.bind_some, if_pos (by omega), if_pos (by rw [m1]; omega), rdOf_nat, m2 j (by omega)]
    · rw [if_neg d, decide_eq_false d, if_neg (by decide)]
  · rw [if_neg c, if_neg c, if_neg (by decide)]
def cnt (p : Nat → Bool) : Nat → Nat → Int
  | _, 0 => 0
  | i, m + 1 => (if p i = true then 1 else 0) + cnt p (i + 1) m
theorem cnt_add (p : Nat → Bool) (n : Nat) : ∀ (m i : Nat), cnt p i (m + n) = cnt p i m + cnt p (i + m) n
  | 0, i => by show cnt p i (0 + n) = 0 + cnt p (i + 0) n; rw [Nat.zero_add, Nat.add_zero]; omega
  | m + 1, i => by
    have e : m + 1 + n = (m + n) + 1 := by omega
    rw [e]
    show _ + cnt p (i + 1) (m + n) = _ + cnt p (i + 1) m + cnt p (i + (m + 1)) n
    rw [cnt_add p n m (i + 1), show i + 1 + m = i + (m + 1) by omega]
    omega
theorem cnt_const (p : Nat → Bool) (b : Bool) : ∀ (m i : Nat), (∀ j, i ≤ j → j < i + m → p j = b) → cnt p i m = if b = true then (m : Int) else 0
  | 0, i, _ => by cases b <;> rfl
  | m + 1, i, h => by
    show (if p i = true then 1 else 0) + cnt p (i + 1) m = _
    rw [h i (by omega) (by omega), cnt_const p b m (i + 1) (fun j h1 h2 => h j (by omega) (by omega))]
    cases b
    · rfl
    · show (1 : Int) + (m : Int) = ((m + 1 : Nat) : Int); omega
theorem cnt_congr (p q : Nat → Bool) : ∀ (m i : Nat), (∀ j, i ≤ j → j < i + m → p j = q j) → cnt p i m = cnt q i m
  | 0, _, _ => rfl
  | m + 1, i, h => by
    show (if p i = true then (1 : Int) else 0) + cnt p (i + 1) m = (if q i = true then 1 else 0) + cnt q (i + 1) m
    rw [h i (by omega) (by omega), cnt_congr p q m (i + 1) (fun j h1 h2 => h j (by omega) (by omega))]
theorem cnt_tot : ∀ (l : List Sg) (a : Nat), a ≤ 10080 → nrm ((a : Int) - 1) (prs l) → (∀ x ∈ l, x.f1 ≤ 10080) → cnt (fun j => had (prs l) (j : Int)) a (10080 - a) = tot l
  | [], a, ha, _, _ => by
    exact (cnt_const (fun j => had (prs []) (j : Int)) false _ _ (fun j _ _ => rfl)).trans rfl
  | x :: l, a, ha, hn, hb => by
    obtain ⟨h1, h2, h3⟩ := hn
    have h1' : (a : Int) - 1 < x.f0 := h1
    have h2' : x.f0 < x.f1 := h2
    have h3' : nrm x.f1 (prs l) := h3
    have h4 := hb x List.mem_cons_self
    obtain ⟨p, hp⟩ : ∃ p : Nat, x.f0 = ((a + p : Nat) : Int) := ⟨(x.f0 - a).toNat, by omega⟩
    obtain ⟨q, hq⟩ : ∃ q : Nat, x.f1 = ((a + p + q : Nat) : Int) := ⟨(x.f1 - x.f0).toNat, by omega⟩
    have e : 10080 - a = p + (q + (10080 - (a + p + q))) := by omega
    have ih := cnt_tot l (a + p + q) (by omega) (nrm_down (by omega) h3') (fun y hy => hb y (List.mem_cons_of_mem _ hy))
    have hh : ∀ m : Int, had (prs (x :: l)) m = ((decide (x.f0 ≤ m) && decide (m < x.f1)) || had (prs l) m) := fun m => by rw [prs_cons, had_cons]; rfl
    have hlow : ∀ m : Int, m ≤ x.f1 → had (prs l) m = false := fun m hm => by
      cases hA : had (prs l) m with
      | false => rfl
      | true => have := had_lb _ _ h3' m hA; omega
    rw [e, cnt_add, cnt_add, tot_cons, ← ih,
      cnt_const _ false p a (fun j j1 j2 => by
        show had (prs (x :: l)) (j : Int) = false
        rw [hh, hlow _ (by omega), decide_eq_false (show ¬ x.f0 ≤ (j : Int) by omega)]; rfl),
      cnt_const _ true q (a + p) (fun j j1 j2 => by
        show had (prs (x :: l)) (j : Int) = true
        rw [hh, decide_eq_true (show x.f0 ≤ (j : Int) by omega), decide_eq_true (show (j : Int) < x.f1 by omega)]; rfl),
      cnt_congr (fun j => had (prs (x :: l)) (j : Int)) (fun j => had (prs l) (j : Int)) _ _ (fun j j1 j2 => by
        show had (prs (x :: l)) (j : Int) = had (prs l) (j : Int)
        rw [hh, decide_eq_false (show ¬ (j : Int) < x.f1 by omega), Bool.and_false, Bool.false_or])]
    rw [if_neg (by decide), if_pos rfl]
    omega
theorem rsum_l0 (M : List Bool) (N : Nat) (hN : N ≤ 20000) (hM : M.length = N) (m : Nat) : ∀ (k i : Nat) (acc : Int), i + m = N → m + 1 ≤ k → 0 ≤ acc → acc ≤ i → bellmanref07_Sum.l0 k acc M (N : Int) (i : Int) = some (acc + cnt (fun j => M.getD j false) i m, 0) := by
  induction m with
  | zero =>
    intro k i acc h hk h0 h1
    obtain ⟨k, rfl⟩ : ∃ m, k = m + 1 := ⟨k - 1, by omega⟩
    rw [bellmanref07_Sum.l0, if_neg (by omega)]
    show some (acc, 0) = some (acc + 0, 0)
    rw [Int.add_zero]
  | succ m ih =>
    intro k i acc h hk h0 h1
    obtain ⟨k, rfl⟩ : ∃ m, k = m + 1 := ⟨k - 1, by omega⟩
    rw [bellmanref07_Sum.l0, if_pos (by omega), if_pos (by omega), if_pos (by omega), rdOf_nat, wrap_k i (by omega)]
    show _ = some (acc + ((if M.getD i false = true then 1 else 0) + cnt (fun j => M.getD j false) (i + 1) m), 0)
    by_cases c : M.getD i false = true
    · have hw : wrap64 (acc + 1) = acc + 1 := by unfold wrap64; omega
      rw [if_pos c, if_pos c, hw, ih k (i + 1) (acc + 1) (by omega) (by omega) (by omega) (by omega), Int.add_assoc]
    · rw [if_neg c, if_neg c, ih k (i + 1) acc (by omega) (by omega) (by omega) (by omega), Int.zero_add]
theorem sum_both (w : List Sg) (hw : w.length ≤ 1000000) (k : Nat) (hk : 2000000 ≤ k) : ∃ x : Int × Int, week_Sum.f k w = some x ∧ bellmanref07_Sum.f k w = some x := by
  refine ⟨_, sum_eq w hw k (by omega), ?_⟩
  unfold bellmanref07_Sum.f
  rw [rcheck_eq w k (by omega), Option.bind_some]
  by_cases c : rightB w = true
  · obtain ⟨M, m1, m2, m3⟩ := minutes_eq w c k (by omega)
    obtain ⟨g1, g2, _⟩ := right_nrm w c
    obtain ⟨N, hN⟩ : ∃ N : Nat, N = 10080 := ⟨_, rfl⟩
    rw [if_pos c, if_pos c, if_pos rfl, m3, Option.bind_some, m1, ← hN]
    have h := rsum_l0 M N (by omega) (by omega) N k 0 0 (by omega) (by omega) (by omega) (by omega)
    have h2 := cnt_tot w 0 (by omega) g1 g2
    rw [cnt_congr (fun j => M.getD j false) (fun j => had (prs w) (j : Int)) N 0 (fun j _ hj => m2 j (by omega))] at h
    rw [Nat.sub_zero, ← hN] at h2
    rw [h2, Int.zero_add] at h
    exact h
  · rw [if_neg c, if_neg c, if_neg (by decide)]
theorem rnext_l0 (M : List Bool) (hM : M.length = 10080) (p : Int → Bool) (hp : ∀ j : Nat, j < 10080 → M.getD j false = p (j : Int)) (n : Int) (h0 : 0 ≤ n) (h1 : n < 10080) (b : Bool) (m : Nat) : ∀ (k i : Nat), i + m ≤ 10080 → m + 1 ≤ k → (∀ e : Int, (i : Int) ≤ e → e < ((i + m : Nat) : Int) → p ((n + e) % 10080) = !b) → (i + m < 10080 → p ((n + ((i + m : Nat) : Int)) % 10080) = b) →
    bellmanref07_Next.l0 k n b M (i : Int) = if i + m < 10080 then some (((i + m : Nat) : Int), 0) else some (0, 3) := by
  have hrd : ∀ i : Nat, i < 10080 → Int.tmod (wrap64 (n + (i : Int))) 10080 = (n + (i : Int)) % 10080 ∧ rdOf false M ((n + (i : Int)) % 10080) = p ((n + (i : Int)) % 10080) := by
    intro i hi
    have hw : wrap64 (n + (i : Int)) = n + (i : Int) := by unfold wrap64; omega
    refine ⟨by rw [hw, Int.tmod_eq_emod_of_nonneg (by omega)], ?_⟩
    obtain ⟨j, hj⟩ : ∃ j : Nat, (n + (i : Int)) % 10080 = (j : Int) := ⟨((n + (i : Int)) % 10080).toNat, by omega⟩
    rw [hj, rdOf_nat, hp j (by omega)]
  induction m with
  | zero =>
    intro k i h hk hlow hat
    obtain ⟨k, rfl⟩ : ∃ m, k = m + 1 := ⟨k - 1, by omega⟩
    rw [bellmanref07_Next.l0, Nat.add_zero]
    by_cases c : i < 10080
    · obtain ⟨r1, r2⟩ := hrd i c
      have h3 := hat (by omega)
      rw [Nat.add_zero] at h3
      rw [if_pos (by omega), r1, if_pos (by omega), if_pos (by rw [hM]; omega), r2, h3, if_pos (by simp), if_pos c]
    · rw [if_neg (by omega), if_neg c]
  | succ m ih =>
    intro k i h hk hlow hat
    obtain ⟨k, rfl⟩ : ∃ m, k = m + 1 := ⟨k - 1, by omega⟩
    obtain ⟨r1, r2⟩ := hrd i (by omega)
    have h3 := hlow (i : Int) (by omega) (by omega)
    have e : i + (m + 1) = i + 1 + m := by omega
    rw [bellmanref07_Next.l0, if_pos (by omega), r1, if_pos (by omega), if_pos (by rw [hM]; omega), r2, h3, if_neg (by cases b <;> decide), wrap_k i (by omega), e]
    exact ih k (i + 1) (by omega) (by omega) (fun e e1 e2 => hlow e (by omega) (by omega)) (fun hh => by rw [← e]; exact hat (by omega))
theorem next_both (w : List Sg) (hw : w.length ≤ 1000000) (n : Int) (b : Bool) (k : Nat) (hk : 2000000 ≤ k) : ∃ x : Int × Int, week_Next.f k w n b = some x ∧ bellmanref07_Next.f k w n b = some x := by
  unfold bellmanref07_Next.f
  rw [rcheck_eq w k (by omega), Option.bind_some, ris_eq]
  rcases next_eq w hw n b k (by omega) with ⟨hr, e⟩ | ⟨hr, hno, e⟩ | ⟨hr, h0, h1, hsk, e⟩ | ⟨hr, h0, h1, d, d0, d1, hd, hd2, e⟩
  · exact ⟨_, e, by rw [hr]; rfl⟩
  · exact ⟨_, e, by rw [if_pos hr, if_pos rfl, Option.bind_some, decide_eq_false hno]; rfl⟩
  · obtain ⟨M, m1, m2, m3⟩ := minutes_eq w hr k (by omega)
    refine ⟨_, e, ?_⟩
    rw [if_pos hr, if_pos rfl, Option.bind_some, decide_eq_true ⟨h0, h1⟩, if_pos rfl, m3, Option.bind_some]
    have h := rnext_l0 M m1 (fun m => had (prs w) m) m2 n h0 h1 b 10080 k 0 (by omega) (by omega) (fun e e0 e1 => by
      have hs := seek_had w hr b ((n + e) % 10080) (by omega) (by omega)
      rw [hsk] at hs
      have hs2 : false = (had (prs w) ((n + e) % 10080) == b) := hs
      show had (prs w) ((n + e) % 10080) = !b
      revert hs2
      cases had (prs w) ((n + e) % 10080) <;> cases b <;> simp) (by omega)
    rw [if_neg (by omega)] at h
    exact h
  · obtain ⟨M, m1, m2, m3⟩ := minutes_eq w hr k (by omega)
    refine ⟨_, e, ?_⟩
    rw [if_pos hr, if_pos rfl, Option.bind_some, decide_eq_true ⟨h0, h1⟩, if_pos rfl, m3, Option.bind_some]
    obtain ⟨q, rfl⟩ : ∃ q : Nat, d = (q : Int) := ⟨d.toNat, by omega⟩
    have h := rnext_l0 M m1 (fun m => had (prs w) m) m2 n h0 h1 b q k 0 (by omega) (by omega) (fun e e0 e1 => hd2 e (by omega) (by omega)) (fun _ => by rw [Nat.zero_add]; exact hd)
    rw [Nat.zero_add, if_pos (by omega)] at h
    exact h
theorem pure_WeekMakes : bellmanlaw07_WeekMakes.PureU := by
  intro l w n b _ _ _ hsz
  rw [sum_ones4, sum_ones4] at hsz
  have hl : l.length ≤ 1000000 := by omega
  have hw : w.length ≤ 1000000 := by omega
  obtain ⟨K, hK⟩ : ∃ K : Nat, K = 2000000 := ⟨_, rfl⟩
  refine ⟨K, ?_⟩
  obtain ⟨x, x1, x2, x3⟩ := make_both l hl K (by omega)
  obtain ⟨y, y2, y3⟩ := has_both w hw n K (by omega)
  obtain ⟨z, z2, z3⟩ := sum_both w hw K (by omega)
  obtain ⟨u, u2, u3⟩ := next_both w hw n b K (by omega)
  unfold bellmanlaw07_WeekMakes.f
  rw [x2, Option.bind_some, x3, Option.bind_some, y2, Option.bind_some, y3, Option.bind_some, z2, Option.bind_some, z3, Option.bind_some, u2, Option.bind_some, u3, Option.bind_some, lives_ok K (by omega), Option.bind_some, if_pos rfl,
    same_eq x.1 (by omega) K (by omega), Option.bind_some, if_pos rfl, if_pos rfl, if_pos (beq_self_eq_true _), if_pos rfl, if_pos rfl, if_pos rfl, if_pos rfl, if_pos rfl, check_eq w hw K (by omega), Option.bind_some, rcheck_eq w K (by omega), Option.bind_some, beq_self_eq_true]
end Go.Proofs.Ytlnadfhhgcpkpaa.XW
namespace Go.Proofs.Ytlnadfhhgcpkpaa.Pure
theorem WeekMakes : XW.bellmanlaw07_WeekMakes.PureU := XW.pure_WeekMakes
end Go.Proofs.Ytlnadfhhgcpkpaa.Pure
