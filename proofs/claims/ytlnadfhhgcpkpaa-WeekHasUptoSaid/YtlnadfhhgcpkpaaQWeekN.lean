-- by a program of this session
import Derived.Test.YtlnadfhhgcpkpaaQWeekF
import Derived.Test.YtlnadfhhgcpkpaaXW12
import Derived.Test.YtlnadfhhgcpkpaaXW10
set_option linter.unusedVariables false
set_option linter.unusedSimpArgs false
/-! The next minute, and how many: plain. -/
namespace Go.Proofs.Ytlnadfhhgcpkpaa.XW
open Go.RowKit Go.Proofs.YtlnadfhhgcpkpaaW.PrintWords Go.Proofs.YtlnadfhhgcpkpaaW.PrintLast Go.Proofs.YtlnadfhhgcpkpaaW.PrintMore Go.Proofs.Ytlnadfhhgcpkpaa.Wk
def tot (l : List Sg) : Int := (l.map (fun x : Sg => x.f1 - x.f0)).sum
theorem tot_cons (x : Sg) (l : List Sg) : tot (x :: l) = (x.f1 - x.f0) + tot l := by
  unfold tot
  rw [List.map_cons, List.sum_cons]
theorem sum_l0 (l : List Sg) (hl : l.length ≤ 64) (hb : ∀ x ∈ l, 0 ≤ x.f0 ∧ x.f0 ≤ x.f1 ∧ x.f1 ≤ 10080) : ∀ (m k i : Nat) (acc : Int), i + m = l.length → m + 1 ≤ k → 0 ≤ acc → acc ≤ 10080 * i → week_Sum.l0 k acc l (l.length : Int) (i : Int) = some (acc + tot (l.drop i), 0)
  | 0, k, i, acc, h, hk, h0, h1 => by
    obtain ⟨k, rfl⟩ : ∃ m, k = m + 1 := ⟨k - 1, by omega⟩
    rw [week_Sum.l0, if_neg (by omega), List.drop_of_length_le (by omega)]
    simp [tot]
  | m + 1, k, i, acc, h, hk, h0, h1 => by
    obtain ⟨k, rfl⟩ : ∃ m, k = m + 1 := ⟨k - 1, by omega⟩
    have hi : i < l.length := by omega
    obtain ⟨g1, g2, g3⟩ := hb l[i] (List.getElem_mem hi)
    have e : tot (l.drop i) = (l[i].f1 - l[i].f0) + tot (l.drop (i + 1)) := by
      rw [List.drop_eq_getElem_cons hi, tot_cons]
    rw [week_Sum.l0, if_pos (by omega), if_pos (by omega), if_pos (by omega), rd_eq l i hi, wrap_k i (by omega), e]
    generalize l[i] = x at g1 g2 g3 ⊢
    have w1 : wrap64 (x.f1 - x.f0) = x.f1 - x.f0 := by unfold wrap64; omega
    have w2 : wrap64 (acc + (x.f1 - x.f0)) = acc + (x.f1 - x.f0) := by unfold wrap64; omega
    rw [w1, w2, sum_l0 l hl hb m k (i + 1) _ (by omega) (by omega) (by omega) (by omega), Int.add_assoc]
theorem right_bounds (l : List Sg) (h : rightB l = true) : ∀ x ∈ l, 0 ≤ x.f0 ∧ x.f0 < x.f1 ∧ x.f1 ≤ 10080 := by
  obtain ⟨h1, h2, _⟩ := right_nrm l h
  intro x hx
  have hm : pr x ∈ prs l := List.mem_map.mpr ⟨x, hx, rfl⟩
  have g1 : -1 < x.f0 := nrm_lb _ _ h1 _ hm
  have g2 : x.f0 < x.f1 := nrm_ne _ _ h1 _ hm
  exact ⟨by omega, g2, h2 x hx⟩
theorem sum_eq (l : List Sg) (hl : l.length ≤ 1000000) (k : Nat) (hk : 1000010 ≤ k) : week_Sum.f k l = some (if rightB l = true then (tot l, 0) else (0, 2)) := by
  unfold week_Sum.f
  rw [check_eq l hl k hk, Option.bind_some]
  cases c : rightB l with
  | false => rfl
  | true =>
    rw [if_pos rfl, if_pos rfl, if_pos rfl]
    have h64 := (right_nrm l c).2.2
    have h := sum_l0 l h64 (fun x hx => by obtain ⟨a, b, d⟩ := right_bounds l c x hx; exact ⟨a, by omega, d⟩) l.length k 0 0 (by omega) (by omega) (by omega) (by omega)
    rw [List.drop_zero, Int.zero_add] at h
    exact h
theorem tot_compl (l : List Sg) (hn : nrm (-1) (prs l)) (hb : ∀ x ∈ l, x.f1 ≤ 10080) (h : compl 0 l = []) : tot l = 10080 := by
  match l, hn, hb, h with
  | [], _, _, h => simp [compl] at h
  | [x], hn, hb, h =>
    have hx := hb x (by simp)
    have h1 : -1 < x.f0 := hn.1
    simp only [compl, List.append_eq_nil_iff] at h
    have c1 : ¬ 0 < x.f0 := fun c => by rw [if_pos c] at h; simp at h
    have c2 : ¬ x.f1 < 10080 := fun c => by have h2 := h.2; rw [if_pos c] at h2; simp at h2
    simp [tot]
    omega
  | x :: y :: l, hn, hb, h =>
    have h2 : x.f1 < y.f0 := hn.2.2.1
    simp only [compl, List.append_eq_nil_iff] at h
    have h3 := h.2.1
    rw [if_pos h2] at h3
    simp at h3
theorem nrm_pair : ∀ (l : List Rg) (a : Int), nrm a l → l.Pairwise (fun x y => x.2 < y.1)
  | [], _, _ => List.Pairwise.nil
  | x :: l, a, h => List.pairwise_cons.mpr ⟨fun y hy => nrm_lb l x.2 h.2.2 y hy, nrm_pair l x.2 h.2.2⟩
theorem ixf_spec (n : Int) : ∀ (l : List Sg) (i : Nat), (@Lib.idxByFrom Sg (fun _ y => week_Next.p n y) z38 l i = -1 ∧ ∀ x ∈ l, x.f1 ≤ n) ∨
    ∃ (j : Nat) (h : j < l.length), @Lib.idxByFrom Sg (fun _ y => week_Next.p n y) z38 l i = ((i + j : Nat) : Int) ∧ n < l[j].f1 ∧ ∀ (t : Nat) (ht : t < l.length), t < j → l[t].f1 ≤ n
  | [], i => .inl ⟨rfl, by simp⟩
  | x :: l, i => by
    unfold Lib.idxByFrom
    by_cases c : n < x.f1
    · have hp : week_Next.p n x = true := decide_eq_true c
      simp only [hp, if_true]
      exact .inr ⟨0, by simp, by simp, c, fun t _ ht => by omega⟩
    · have hp : week_Next.p n x = false := decide_eq_false c
      simp only [hp, Bool.false_eq_true, if_false]
      rcases ixf_spec n l (i + 1) with ⟨h1, h2⟩ | ⟨j, hj, h1, h2, h3⟩
      · refine .inl ⟨h1, fun y hy => ?_⟩
        rcases List.mem_cons.mp hy with rfl | hy
        · omega
        · exact h2 y hy
      · refine .inr ⟨j + 1, by simp; omega, by rw [h1]; omega, by simpa using h2, fun t ht htj => ?_⟩
        match t, ht, htj with
        | 0, _, _ => simp; omega
        | t + 1, ht, htj => simpa using h3 t (by simp at ht; omega) (by omega)
theorem ix_spec (n : Int) (l : List Sg) : (week_Next.ix n l = -1 ∧ ∀ x ∈ l, x.f1 ≤ n) ∨ ∃ (j : Nat) (h : j < l.length), week_Next.ix n l = (j : Int) ∧ n < l[j].f1 ∧ ∀ (t : Nat) (ht : t < l.length), t < j → l[t].f1 ≤ n := by
  have h := ixf_spec n l 0
  unfold week_Next.ix Lib.idxBy
  simpa using h
theorem had_false (l : List Rg) (m : Int) (h : ∀ x ∈ l, ¬ (x.1 ≤ m ∧ m < x.2)) : had l m = false := by
  cases hh : had l m with
  | false => rfl
  | true => obtain ⟨x, hx, h1, h2⟩ := (had_iff l m).mp hh; exact absurd ⟨h1, h2⟩ (h x hx)
theorem end_eq (L : List Sg) (a : Int) (ha : -1 ≤ a) (hn : nrm a (prs L)) (hb : ∀ x ∈ L, x.f1 ≤ 10080) (n : Int) (h0 : 0 ≤ n) (h1 : n < 10080) : (L = [] ∧ week_Next.end_ L n = some (0, 3)) ∨
    ∃ d : Int, 0 ≤ d ∧ d < 10080 ∧ had (prs L) ((n + d) % 10080) = true ∧ (∀ e, 0 ≤ e → e < d → had (prs L) ((n + e) % 10080) = false) ∧ week_Next.end_ L n = some (d, 0) := by
  unfold week_Next.end_
  by_cases c : L.length = 0
  · exact .inl ⟨List.eq_nil_of_length_eq_zero c, if_pos c⟩
  · rw [if_neg c]
    right
    have hp := nrm_pair _ _ hn
    have lb : ∀ x ∈ L, a < x.f0 := fun x hx => nrm_lb _ _ hn (pr x) (List.mem_map.mpr ⟨x, hx, rfl⟩)
    have ne : ∀ x ∈ L, x.f0 < x.f1 := fun x hx => nrm_ne _ _ hn (pr x) (List.mem_map.mpr ⟨x, hx, rfl⟩)
    have pair : ∀ (i j : Nat) (hi : i < L.length) (hj : j < L.length), i < j → L[i].f1 < L[j].f0 := by
      intro i j hi hj hij
      have := List.pairwise_iff_getElem.mp hp i j (by rw [prs_len]; exact hi) (by rw [prs_len]; exact hj) hij
      rw [prs_get _ _ _ hi, prs_get _ _ _ hj] at this
      exact this
    have mem : ∀ x ∈ prs L, ∃ (t : Nat) (ht : t < L.length), x = pr L[t] := by
      intro x hx
      obtain ⟨y, hy, rfl⟩ := List.mem_map.mp hx
      obtain ⟨t, ht, rfl⟩ := List.getElem_of_mem hy
      exact ⟨t, ht, rfl⟩
    have hL0 : 0 < L.length := by omega
    have b0 := hb L[0] (List.getElem_mem hL0)
    have l0 := lb L[0] (List.getElem_mem hL0)
    have n0 := ne L[0] (List.getElem_mem hL0)
    rcases ix_spec n L with ⟨e, hall⟩ | ⟨j, hj, e, hj1, hj2⟩
    · rw [e, if_pos (by decide)]
      have hr : rd_T38 L 0 = L[0] := rd_eq L 0 hL0
      have x0 := hall L[0] (List.getElem_mem hL0)
      have hw : wrap64 (wrap64 ((rd_T38 L 0).f0 + 10080) - n) = L[0].f0 + 10080 - n := by rw [hr]; unfold wrap64; omega
      rw [hw]
      refine ⟨L[0].f0 + 10080 - n, by omega, by omega, ?_, fun e' h2 h3 => ?_, rfl⟩
      · have hmod : ((n + (L[0].f0 + (10080 : Int) - n)) % (10080 : Int)) = L[0].f0 := by omega
        rw [hmod]
        exact (had_iff _ _).mpr ⟨pr L[0], List.mem_map.mpr ⟨_, List.getElem_mem hL0, rfl⟩, Int.le_refl _, n0⟩
      · refine had_false _ _ fun x hx => ?_
        obtain ⟨t, ht, rfl⟩ := mem x hx
        have ht1 := hall L[t] (List.getElem_mem ht)
        have ht2 : L[0].f0 ≤ L[t].f0 := by
          rcases Nat.eq_zero_or_pos t with rfl | htp
          · exact Int.le_refl _
          · have := pair 0 t hL0 ht htp; omega
        show ¬ (L[t].f0 ≤ _ ∧ _ < L[t].f1)
        omega
    · rw [e, if_neg (by omega), if_pos (by omega), rd_eq L j hj]
      have bj := hb L[j] (List.getElem_mem hj)
      have lj := lb L[j] (List.getElem_mem hj)
      have nj := ne L[j] (List.getElem_mem hj)
      have hw : wrap64 (L[j].f0 - n) = L[j].f0 - n := by unfold wrap64; omega
      rw [hw]
      unfold mx
      by_cases c2 : 0 < L[j].f0 - n
      · rw [if_pos c2]
        refine ⟨L[j].f0 - n, by omega, by omega, ?_, fun e' h2 h3 => ?_, rfl⟩
        · have hmod : ((n + (L[j].f0 - n)) % (10080 : Int)) = L[j].f0 := by omega
          rw [hmod]
          exact (had_iff _ _).mpr ⟨pr L[j], List.mem_map.mpr ⟨_, List.getElem_mem hj, rfl⟩, Int.le_refl _, nj⟩
        · refine had_false _ _ fun x hx => ?_
          obtain ⟨t, ht, rfl⟩ := mem x hx
          show ¬ (L[t].f0 ≤ _ ∧ _ < L[t].f1)
          rw [show (n + e') % 10080 = n + e' by omega]
          by_cases htj : t < j
          · have := hj2 t ht htj; omega
          · by_cases htj2 : t = j
            · subst htj2; omega
            · have := pair j t hj ht (by omega); omega
      · rw [if_neg c2]
        refine ⟨0, by omega, by omega, ?_, fun e' h2 h3 => by omega, rfl⟩
        rw [show (n + 0) % 10080 = n by omega]
        exact (had_iff _ _).mpr ⟨pr L[j], List.mem_map.mpr ⟨_, List.getElem_mem hj, rfl⟩, by show L[j].f0 ≤ n; omega, hj1⟩
/-- The minutes that are looked for: those that are had, or those that are not. -/
def seek (l : List Sg) (b : Bool) : List Sg := if b = true then l else compl 0 l
theorem seek_had (l : List Sg) (h : rightB l = true) (b : Bool) (m : Int) (h0 : 0 ≤ m) (h1 : m < 10080) : had (prs (seek l b)) m = (had (prs l) m == b) := by
  obtain ⟨g1, g2, _⟩ := right_nrm l h
  unfold seek
  cases b with
  | true => rw [if_pos rfl]; simp
  | false =>
    rw [if_neg (by decide), compl_had l 0 g1 g2, decide_eq_true h0, decide_eq_true h1]
    simp
theorem next_eq (l : List Sg) (hl : l.length ≤ 1000000) (n : Int) (b : Bool) (k : Nat) (hk : 1000010 ≤ k) : (rightB l = false ∧ week_Next.f k l n b = some (0, 2)) ∨ (rightB l = true ∧ ¬ (0 ≤ n ∧ n < 10080) ∧ week_Next.f k l n b = some (0, 1)) ∨
    (rightB l = true ∧ 0 ≤ n ∧ n < 10080 ∧ seek l b = [] ∧ week_Next.f k l n b = some (0, 3)) ∨
    (rightB l = true ∧ 0 ≤ n ∧ n < 10080 ∧ ∃ d : Int, 0 ≤ d ∧ d < 10080 ∧ had (prs l) ((n + d) % 10080) = b ∧ (∀ e, 0 ≤ e → e < d → had (prs l) ((n + e) % 10080) = !b) ∧ week_Next.f k l n b = some (d, 0)) := by
  unfold week_Next.f
  rw [minute_eq l hl n k hk, Option.bind_some]
  cases c : rightB l with
  | false => exact .inl ⟨rfl, rfl⟩
  | true =>
    right
    rw [if_pos rfl]
    by_cases c1 : 0 ≤ n ∧ n < 10080
    · right
      rw [if_pos c1, if_pos rfl]
      obtain ⟨g1, g2, g3⟩ := right_nrm l c
      have he : (if b = true then week_Next.end_ l n else (week_not.f k l).bind fun l => week_Next.end_ l n) = week_Next.end_ (seek l b) n := by
        unfold seek
        cases b with
        | true => rfl
        | false =>
          rw [if_neg (by decide), if_neg (by decide), not_eq l (by omega) k (by omega), Option.bind_some]
      rw [he]
      have hsn : nrm (-1) (prs (seek l b)) ∧ ∀ x ∈ seek l b, x.f1 ≤ 10080 := by
        unfold seek
        cases b with
        | true => exact ⟨g1, g2⟩
        | false =>
          rw [if_neg (by decide)]
          have hc := compl_nrm l 0 (-1) (by omega) g1 g2
          refine ⟨hc, fun x hx => ?_⟩
          have := had_bound (prs (compl 0 l)) (-1) hc 10080 (fun m hm => by
            rw [compl_had l 0 g1 g2 m] at hm
            simp at hm
            omega) (pr x) (List.mem_map.mpr ⟨x, hx, rfl⟩)
          exact this
      rcases end_eq (seek l b) (-1) (by omega) hsn.1 hsn.2 n c1.1 c1.2 with ⟨h1, h2⟩ | ⟨d, d0, d1, h1, h2, h3⟩
      · exact .inl ⟨rfl, c1.1, c1.2, h1, h2⟩
      · refine .inr ⟨rfl, c1.1, c1.2, d, d0, d1, ?_, fun e e0 e1 => ?_, h3⟩
        · rw [seek_had l c b _ (by omega) (by omega)] at h1
          exact beq_iff_eq.mp h1
        · have := h2 e e0 e1
          rw [seek_had l c b _ (by omega) (by omega)] at this
          revert this
          cases had (prs l) ((n + e) % 10080) <;> cases b <;> simp
    · rw [if_neg c1]
      exact .inl ⟨rfl, c1, rfl⟩
end Go.Proofs.Ytlnadfhhgcpkpaa.XW
