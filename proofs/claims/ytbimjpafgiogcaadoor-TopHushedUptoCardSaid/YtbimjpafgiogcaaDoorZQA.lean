-- several texts of this claim in one, in their order (by a program of this session)
import Derived.Test.YtbimjpafgiogcaaDoorZXQ21
import Derived.Test.YtbimjpafgiogcaaDoorZXQ12
import Derived.Test.YtbimjpafgiogcaaDoorZXQ13
import Derived.Test.YtbimjpafgiogcaaDoorZXQ16
import Derived.Test.YtbimjpafgiogcaaDoorZXQ14
import Derived.Test.YtbimjpafgiogcaaDoorZXQ15
import Derived.Test.YtbimjpafgiogcaaDoorZXQ18
import Derived.Test.YtbimjpafgiogcaaDoorZXQ9
import Derived.Test.YtbimjpafgiogcaaDoorZXQ11
import Derived.Laws.BitsLemmas
import Derived.Test.YtbimjpafgiogcaaDoorZXQ4
import Derived.Test.YtbimjpafgiogcaaDoorZXQ5
import Derived.Test.YtbimjpafgiogcaaDoorZXQ17
import Derived.Test.YtbimjpafgiogcaaDoorZXQ20
import Derived.Test.YtbimjpafgiogcaaDoorZXQ19
import Derived.Test.YtbimjpafgiogcaaDoorZXQ10
import Derived.Test.YtbimjpafgiogcaaDoorZXQ7
import Derived.Test.YtbimjpafgiogcaaDoorZXQ6
import Derived.Test.YtbimjpafgiogcaaDoorRows
import Derived.Test.YtbimjpafgiogcaaDoorZWA
import Derived.Deep.Slices
import Derived.ChangeArms
import Derived.OpenShut
import Derived.ChangeOld
set_option linter.unusedVariables false
namespace Go.Proofs.YtbimjpafgiogcaaDoor.XQ
open Go.RowKit Go.Proofs.YtbimjpafgiogcaaDoorW.PrintWords Go.Proofs.YtbimjpafgiogcaaDoorW.PrintLast Go.Proofs.YtbimjpafgiogcaaDoorW.PrintMore
def bellmantop_TopHushed.PureU : Prop := ∀ (a0 : S25) (l1 : List S45) (l2 : List S45) (a3 : Int), ((Lit.int .i64 a0.f0).wf = true ∧ ((Lit.int .i64 a0.f1).wf = true ∧ (((Lit.int .i64 a0.f2.f0).wf = true ∧ ((Lit.int .i64 a0.f2.f1).wf = true ∧ ((Lit.int .i64 a0.f2.f2).wf = true ∧ (Lit.int .i64 a0.f2.f3).wf = true))) ∧ ((Lit.int .i64 a0.f3.f0).wf = true ∧ ((Lit.int .i64 a0.f3.f1).wf = true ∧ ((Lit.int .i64 a0.f3.f2).wf = true ∧ (Lit.int .i64 a0.f3.f3).wf = true)))))) → (∀ x ∈ l1, ((Lit.int .i64 x.f0).wf = true ∧ (Lit.int .i64 x.f1).wf = true)) → (∀ x ∈ l2, ((Lit.int .i64 x.f0).wf = true ∧ (Lit.int .i64 x.f1).wf = true)) → (Lit.int .i64 a3).wf = true → ((1 + (1 + (((1 + (1 + (1 + 1))) + 1) + ((1 + (1 + (1 + 1))) + 1)))) + 1) + ((l1.map (fun _ => ((1 + 1) + 1))).sum + 1) + ((l2.map (fun _ => ((1 + 1) + 1))).sum + 1) + 1 ≤ 1048576 → ∃ k, bellmantop_TopHushed.f k a0.f0 a0.f1 a0.f2.f0 a0.f2.f1 a0.f2.f2 a0.f2.f3 a0.f3.f0 a0.f3.f1 a0.f3.f2 a0.f3.f3 l1 l2 a3 = some true
end Go.Proofs.YtbimjpafgiogcaaDoor.XQ
set_option linter.unusedVariables false
set_option linter.unusedSimpArgs false
namespace Go.Proofs.YtbimjpafgiogcaaDoor.XQ
open Go.RowKit Go.Proofs.YtbimjpafgiogcaaDoorW.PrintWords Go.Proofs.YtbimjpafgiogcaaDoorW.PrintLast Go.Proofs.YtbimjpafgiogcaaDoorW.PrintMore
theorem w_in {n : Int} (h : -9223372036854775808 ≤ n) (h2 : n ≤ 9223372036854775807) : wrap64 n = n := by unfold wrap64; omega
theorem q_in {a b : Int} (h : 0 ≤ a) : Int.tdiv a b = a / b := Int.tdiv_eq_ediv_of_nonneg h
theorem r_in {a b : Int} (h : 0 ≤ a) : Int.tmod a b = a % b := Int.tmod_eq_emod_of_nonneg h
def lp (y : Int) : Bool := decide (y % 400 = 0) || (!decide (y % 100 = 0) && decide (y % 4 = 0))
theorem lp_iff (y : Int) : lp y = true ↔ y % 400 = 0 ∨ (y % 100 ≠ 0 ∧ y % 4 = 0) := by
  unfold lp
  simp only [Bool.or_eq_true, Bool.and_eq_true, Bool.not_eq_true', decide_eq_true_eq, decide_eq_false_iff_not, ne_eq]
theorem long_f {y : Int} (h : 0 ≤ y) : civil_long.f y = some (lp y) := by
  unfold civil_long.f lp
  rw [r_in h, r_in h, r_in h]
  by_cases a : y % 400 = 0
  · simp [a]
  · by_cases b : y % 100 = 0
    · simp [a, b]
    · simp [a, b]
      rfl
def ah (y m : Int) : Int := bef.getD (m - 1).toNat 0 + if 2 < m ∧ lp y = true then 1 else 0
theorem ahead_f {y m : Int} (h : 0 ≤ y) (h1 : 1 ≤ m) (h2 : m ≤ 13) : civil_ahead.f y m = some (ah y m) := by
  unfold civil_ahead.f ah
  rw [if_pos ⟨h1, h2⟩, long_f h]
  rfl
theorem ah_one (y : Int) : ah y 1 = 0 := by unfold ah; rw [if_neg (by omega)]; rfl
theorem ah_last (y : Int) : ah y 13 = 365 + if lp y = true then 1 else 0 := by
  unfold ah
  cases lp y <;> rfl
theorem ah_step (y : Int) {m : Int} (h1 : 1 ≤ m) (h2 : m ≤ 12) : ah y m + 28 ≤ ah y (m + 1) ∧ ah y (m + 1) ≤ ah y m + 31 ∧ 0 ≤ ah y m ∧ ah y (m + 1) ≤ 366 := by
  obtain ⟨n, rfl⟩ : ∃ n : Nat, m = (n : Int) + 1 := ⟨(m - 1).toNat, by omega⟩
  have hn : n < 12 := by omega
  unfold ah bef
  rw [show ((n : Int) + 1 - 1).toNat = n by omega, show ((n : Int) + 1 + 1 - 1).toNat = n + 1 by omega]
  cases lp y <;> rcases n with _|_|_|_|_|_|_|_|_|_|_|_|n <;> simp <;> omega
def There (y m d : Int) : Prop := (1 ≤ y ∧ y ≤ 9999) ∧ (1 ≤ m ∧ m ≤ 12) ∧ 1 ≤ d ∧ d ≤ ah y (m + 1) - ah y m
theorem There.le {y m d : Int} (h : There y m d) : d ≤ 31 ∧ ah y m + d ≤ 366 := by
  obtain ⟨_, ⟨h1, h2⟩, _, h3⟩ := h
  have := ah_step y h1 h2
  omega
instance (y m d : Int) : Decidable (There y m d) := by unfold There; exact inferInstance
theorem there_f (y m d : Int) : civil_there.f y m d = some (decide (There y m d)) := by
  unfold civil_there.f civil_year.f
  by_cases a : y ≥ 1
  · rw [if_pos a]
    by_cases b : y ≤ 9999
    · rw [decide_eq_true b, Option.bind_some, if_pos rfl]
      by_cases c : m ≥ 1
      · rw [if_pos c]
        by_cases e : m ≤ 12
        · rw [if_pos e]
          have hs := ah_step y c e
          by_cases g : d ≥ 1
          · rw [if_pos g, w_in (by omega) (by omega), ahead_f (by omega) (by omega) (by omega), Option.bind_some, ahead_f (by omega) (by omega) (by omega), Option.bind_some, w_in (by omega) (by omega)]
            exact congrArg some (decide_eq_decide.mpr (by unfold There; omega))
          · rw [if_neg g]
            simp only [Option.some.injEq]
            exact (decide_eq_false (by unfold There; omega)).symm
        · rw [if_neg e]
          simp only [Option.some.injEq]
          exact (decide_eq_false (by unfold There; omega)).symm
      · rw [if_neg c]
        simp only [Option.some.injEq]
        exact (decide_eq_false (by unfold There; omega)).symm
    · rw [decide_eq_false b, Option.bind_some, if_neg (by decide)]
      simp only [Option.some.injEq]
      exact (decide_eq_false (by unfold There; omega)).symm
  · rw [if_neg a, Option.bind_some, if_neg (by decide)]
    simp only [Option.some.injEq]
    exact (decide_eq_false (by unfold There; omega)).symm
def yd (y : Int) : Int := 365 * (y - 1) + (y - 1) / 4 - (y - 1) / 100 + (y - 1) / 400
def num (y m d : Int) : Int := yd y + ah y m + d - 1
theorem yd_le {y : Int} (h1 : 1 ≤ y) (h2 : y ≤ 9999) : 0 ≤ yd y ∧ yd y ≤ 3651694 := by unfold yd; omega
theorem num_le {y m d : Int} (h : There y m d) : 0 ≤ num y m d ∧ num y m d ≤ 3652060 := by
  have h1 := yd_le h.1.1 h.1.2
  have h2 := h.le
  obtain ⟨_, ⟨h3, h4⟩, h5, _⟩ := h
  have := ah_step y h3 h4
  unfold num
  omega
theorem number_f {y m d : Int} (h : There y m d) : civil_number.f y m d = some (num y m d) := by
  have hl := h.le
  obtain ⟨⟨h1, h2⟩, ⟨h3, h4⟩, h5, h6⟩ := h
  have hs := ah_step y h3 h4
  unfold civil_number.f num yd
  rw [ahead_f (by omega) (by omega) (by omega), Option.bind_some]
  generalize ah y m = z at hs hl
  simp (disch := omega) only [w_in, q_in]
theorem weekday_f {n : Int} (h1 : 0 ≤ n) (h2 : n ≤ 4000000) : civil_weekday.f n = some ((n + 1) % 7) := by
  unfold civil_weekday.f
  simp (disch := omega) only [w_in, r_in]
theorem Weekday_f {y m d : Int} (h : There y m d) : civil_Weekday.f y m d = some ((num y m d + 1) % 7, 0) := by
  have := num_le h
  unfold civil_Weekday.f
  rw [there_f, Option.bind_some, if_pos (decide_eq_true h), number_f h, Option.bind_some, weekday_f (by omega) (by omega)]
  rfl
def Mo (y m d h i s : Int) : Prop := There y m d ∧ (0 ≤ h ∧ h ≤ 23) ∧ (0 ≤ i ∧ i ≤ 59) ∧ 0 ≤ s ∧ s ≤ 59
def tm (y m d h i s : Int) : Int := -62135596800 + 86400 * num y m d + (3600 * h + 60 * i + s)
theorem Time_f {y m d h i s : Int} (H : Mo y m d h i s) (x : Int) : civil_Time.f y m d h i s x = some (tm y m d h i s, 0) := by
  obtain ⟨ht, ⟨h1, h2⟩, ⟨h3, h4⟩, h5, h6⟩ := H
  have hn := num_le ht
  unfold civil_Time.f tm
  rw [there_f, Option.bind_some, if_pos (decide_eq_true ht), if_neg (by unfold mn; split <;> split <;> omega), if_neg (by omega), if_neg (by unfold mx; split <;> omega), number_f ht, Option.bind_some]
  generalize num y m d = z at hn
  simp (disch := omega) only [w_in]
theorem split_pure {A R c Q T k : Int} (hA : 0 ≤ A) (hA2 : A ≤ 24) (hR : 0 ≤ R) (hR2 : R < 146097) (hc : 0 ≤ c) (hc2 : c ≤ 3) (hc3 : c = R / 36524 ∨ c = 3 ∧ 3 ≤ R / 36524) (hQ : Q = (R - c * 36524) / 1461) (hT : T = R - c * 36524 - Q * 1461) (hk : 0 ≤ k) (hk2 : k ≤ 3) (hk3 : k = T / 365 ∨ k = 3 ∧ 3 ≤ T / 365) (hn : 146097 * A + R ≤ 3652058) :
    (1 ≤ 400 * A + 100 * c + 4 * Q + k + 1 ∧ 400 * A + 100 * c + 4 * Q + k + 1 ≤ 9999) ∧ 0 ≤ T - k * 365 ∧ T - k * 365 < ah (400 * A + 100 * c + 4 * Q + k + 1) 13 ∧ yd (400 * A + 100 * c + 4 * Q + k + 1) + (T - k * 365) = 146097 * A + R := by
  have hQ2 : 0 ≤ Q ∧ Q ≤ 25 := by omega
  have hT2 : 0 ≤ T ∧ T < 1461 := by omega
  have hQ3 : Q ≤ 24 := by omega
  clear hQ
  have e4 : (400 * A + 100 * c + 4 * Q + k + 1 - 1) / 4 = 100 * A + 25 * c + Q := by omega
  have e100 : (400 * A + 100 * c + 4 * Q + k + 1 - 1) / 100 = 4 * A + c := by omega
  have e400 : (400 * A + 100 * c + 4 * Q + k + 1 - 1) / 400 = A := by omega
  have hy : yd (400 * A + 100 * c + 4 * Q + k + 1) = 146097 * A + 36524 * c + 1461 * Q + 365 * k := by
    unfold yd
    rw [e4, e100, e400]
    omega
  clear e4 e100 e400
  refine ⟨⟨by omega, ?_⟩, by omega, ?_, by omega⟩
  · by_cases g : 400 * A + 100 * c + 4 * Q + k + 1 ≤ 9999
    · exact g
    · have : A = 24 := by omega
      subst this
      have : c = 3 := by omega
      subst this
      omega
  · rw [ah_last]
    by_cases g : T - k * 365 < 365
    · split <;> omega
    · have g1 : T = 1460 ∧ k = 3 := by omega
      rw [if_pos ((lp_iff _).2 ?_)]
      · omega
      · by_cases g2 : Q = 24
        · left; omega
        · right; omega
theorem split_f {n : Int} (h1 : 0 ≤ n) (h2 : n ≤ 3652058) : ∃ y l, civil_split.f n = some (y, l) ∧ (1 ≤ y ∧ y ≤ 9999) ∧ 0 ≤ l ∧ l < ah y 13 ∧ yd y + l = n := by
  have e0 : sp_y n = 400 * (n / 146097) := by unfold sp_y; rw [q_in h1, w_in (n := n / 146097) (by omega) (by omega), w_in (by omega) (by omega)]
  obtain ⟨A, hA⟩ : ∃ A, A = n / 146097 := ⟨_, rfl⟩
  obtain ⟨R, hR⟩ : ∃ R, R = n % 146097 := ⟨_, rfl⟩
  have hR2 : 0 ≤ R ∧ R < 146097 := by omega
  obtain ⟨c, hc⟩ : ∃ c, c = sp_c R := ⟨_, rfl⟩
  have hc2 : 0 ≤ c ∧ c ≤ 3 ∧ (c = R / 36524 ∨ c = 3 ∧ 3 ≤ R / 36524) := by
    rw [hc]
    unfold sp_c
    rw [q_in hR2.1, w_in (by omega) (by omega)]
    split <;> omega
  obtain ⟨N, hN⟩ : ∃ N, N = R - c * 36524 := ⟨_, rfl⟩
  have e1 : sp_n R c = N := by unfold sp_n; rw [w_in (n := c * 36524) (by omega) (by omega), w_in (by omega) (by omega), hN]
  have hN2 : 0 ≤ N ∧ N < 36525 := by omega
  obtain ⟨Q, hQ⟩ : ∃ Q, Q = N / 1461 := ⟨_, rfl⟩
  have e2 : sp_q N = Q := by unfold sp_q; rw [q_in hN2.1, w_in (by omega) (by omega), hQ]
  obtain ⟨T, hT⟩ : ∃ T, T = N - Q * 1461 := ⟨_, rfl⟩
  have e3 : sp_m N Q = T := by unfold sp_m; rw [w_in (n := Q * 1461) (by omega) (by omega), w_in (by omega) (by omega), hT]
  have hT2 : 0 ≤ T ∧ T < 1461 := by omega
  obtain ⟨k, hk⟩ : ∃ k, k = sp_k T := ⟨_, rfl⟩
  have hk2 : 0 ≤ k ∧ k ≤ 3 ∧ (k = T / 365 ∨ k = 3 ∧ 3 ≤ T / 365) := by
    rw [hk]
    unfold sp_k
    rw [q_in hT2.1, w_in (by omega) (by omega)]
    split <;> omega
  have hp := split_pure (A := A) (R := R) (c := c) (Q := Q) (T := T) (k := k) (by omega) (by omega) hR2.1 hR2.2 hc2.1 hc2.2.1 hc2.2.2 (by rw [hQ, hN]) (by rw [hT, hN]) hk2.1 hk2.2.1 hk2.2.2 (by omega)
  refine ⟨400 * A + 100 * c + 4 * Q + k + 1, T - k * 365, ?_, hp.1, hp.2.1, hp.2.2.1, by rw [hp.2.2.2]; omega⟩
  unfold civil_split.f
  rw [e0, r_in h1, ← hA, ← hR, ← hc]
  unfold sp_2
  rw [e1, e2]
  unfold sp_3
  rw [e3, ← hk]
  unfold sp_o
  have hQ2 : 0 ≤ Q ∧ Q ≤ 25 := by omega
  have hA2 : 0 ≤ A ∧ A ≤ 25 := by omega
  clear e0 e1 e2 e3 hp hc hk hA hR hN hQ hT
  simp (disch := omega) only [w_in]
theorem month_loop (x5 x6 y l : Int) (h0 : 0 ≤ y) (h5 : 0 ≤ x5) (h52 : x5 ≤ 4000000) (h6 : 0 ≤ x6) (h62 : x6 < 86400) (hl : l < ah y 13) : ∀ (c : Nat) (m : Int), m + c = 12 → 1 ≤ m → ah y m ≤ l →
    ∃ M, 1 ≤ M ∧ M ≤ 12 ∧ ah y M ≤ l ∧ l < ah y (M + 1) ∧ Ev (fun k => civil_Of.l0 k x5 x6 y l m) (y, M, l - ah y M + 1, x6 / 3600, x6 % 3600 / 60, x6 % 60, (x5 + 1) % 7, 0)
  | c, m, hm, h1, ha => by
    have hs := ah_step y h1 (show m ≤ 12 by omega)
    by_cases g : l ≥ ah y (m + 1)
    · cases c with
      | zero =>
        rw [show m + 1 = 13 by omega] at g
        omega
      | succ c =>
        obtain ⟨M, a1, a2, a3, a4, a5⟩ := month_loop x5 x6 y l h0 h5 h52 h6 h62 hl c (m + 1) (by omega) (by omega) g
        refine ⟨M, a1, a2, a3, a4, Ev.step (fun k => ?_) a5⟩
        rw [civil_Of.l0, w_in (by omega) (by omega), ahead_f h0 (by omega) (by omega), Option.bind_some, if_pos g]
    · refine ⟨m, h1, by omega, ha, by omega, Ev.step (f := fun _ => _) (fun k => ?_) (Ev.now _)⟩
      rw [civil_Of.l0, w_in (n := m + 1) (by omega) (by omega), ahead_f h0 (by omega) (by omega), Option.bind_some, if_neg g, ahead_f h0 (by omega) (by omega), Option.bind_some, weekday_f h5 h52, Option.bind_some]
      simp (disch := omega) only [w_in, q_in, r_in]
theorem Of_f {t : Int} (h1 : -62135596800 ≤ t) (h2 : t ≤ 253402300799) : ∃ y m d h i s, Ev (fun k => civil_Of.f k t) (y, m, d, h, i, s, (num y m d + 1) % 7, 0) ∧ Mo y m d h i s ∧ tm y m d h i s = t := by
  obtain ⟨n, hn⟩ : ∃ n, n = (t + 62135596800) / 86400 := ⟨_, rfl⟩
  obtain ⟨r, hr⟩ : ∃ r, r = (t + 62135596800) % 86400 := ⟨_, rfl⟩
  obtain ⟨y, l, e, ⟨hy1, hy2⟩, hl0, hl, hyd⟩ := split_f (n := n) (by omega) (by omega)
  obtain ⟨M, a1, a2, a3, a4, a5⟩ := month_loop n r y l (by omega) (by omega) (by omega) (by omega) (by omega) hl 11 1 (by omega) (by omega) (by rw [ah_one]; exact hl0)
  have hnum : num y M (l - ah y M + 1) = n := by unfold num; omega
  refine ⟨y, M, l - ah y M + 1, r / 3600, r % 3600 / 60, r % 60, ?_, ⟨⟨⟨hy1, hy2⟩, ⟨a1, a2⟩, by omega, by omega⟩, by omega, by omega, by omega⟩, ?_⟩
  · rw [hnum]
    refine Ev.congr (fun k => ?_) a5
    unfold civil_Of.f civil_is.f
    rw [if_pos (by omega), decide_eq_true h2, Option.bind_some, if_pos rfl]
    have e1 : wrap64 (t - (-62135596800)) = t + 62135596800 := by rw [w_in (by omega) (by omega)]; omega
    rw [e1, q_in (by omega), r_in (by omega), ← hn, ← hr, w_in (n := n) (by omega) (by omega), e]
    rfl
  · unfold tm
    rw [hnum]
    omega
end Go.Proofs.YtbimjpafgiogcaaDoor.XQ
set_option linter.unusedVariables false
set_option linter.unusedSimpArgs false
namespace Go.Proofs.YtbimjpafgiogcaaDoor.XQ
open Go.RowKit Go.Proofs.YtbimjpafgiogcaaDoorW.PrintWords Go.Proofs.YtbimjpafgiogcaaDoorW.PrintLast Go.Proofs.YtbimjpafgiogcaaDoorW.PrintMore
abbrev Tn := S111
structure Zn where
  b : Int
  s : Int
  f1 : Int
  f2 : Int
  f3 : Int
  f4 : Int
  t1 : Int
  t2 : Int
  t3 : Int
  t4 : Int
structure Zn.ok (Z : Zn) : Prop where
  b0 : -900 ≤ Z.b
  b1 : Z.b ≤ 900
  s0 : 0 ≤ Z.s
  s1 : Z.s ≤ 120
  m1 : Z.s ≠ 0 → 1 ≤ Z.f1 ∧ Z.f1 ≤ 12 ∧ 1 ≤ Z.f2 ∧ Z.f2 ≤ 5 ∧ 0 ≤ Z.f3 ∧ Z.f3 ≤ 6 ∧ 0 ≤ Z.f4 ∧ Z.f4 < 1440
  m2 : Z.s ≠ 0 → 1 ≤ Z.t1 ∧ Z.t1 ≤ 12 ∧ 1 ≤ Z.t2 ∧ Z.t2 ≤ 5 ∧ 0 ≤ Z.t3 ∧ Z.t3 ≤ 6 ∧ 0 ≤ Z.t4 ∧ Z.t4 < 1440
  ap : Z.s ≠ 0 → 2 ≤ (Z.f1 - Z.t1 + 12) % 12 ∧ (Z.f1 - Z.t1 + 12) % 12 ≤ 10
theorem ah_mono (y : Int) : ∀ (n : Nat) (a : Int), 1 ≤ a → a + n ≤ 13 → ah y a + 28 * n ≤ ah y (a + n)
  | 0, a, _, _ => by simp
  | n + 1, a, h1, h2 => by
    have h := ah_mono y n a h1 (by omega)
    have s := (ah_step y (m := a + n) (by omega) (by omega)).1
    rw [show a + ((n + 1 : Nat) : Int) = a + n + 1 by omega]
    omega
theorem ah_le (y : Int) {a b : Int} (h1 : 1 ≤ a) (h : a ≤ b) (h2 : b ≤ 13) : ah y a + 28 * (b - a) ≤ ah y b := by
  have := ah_mono y (b - a).toNat a h1 (by omega)
  rw [show a + ((b - a).toNat : Int) = b by omega] at this
  omega
def ys (y : Int) : Int := -62135596800 + 86400 * yd y
theorem yd_succ {y : Int} (h : 1 ≤ y) : yd (y + 1) = yd y + ah y 13 := by
  rw [ah_last]
  unfold yd
  by_cases c : lp y = true
  · rw [if_pos c]
    have := (lp_iff y).1 c
    omega
  · rw [if_neg c]
    have h2 : ¬ (y % 400 = 0 ∨ (y % 100 ≠ 0 ∧ y % 4 = 0)) := fun e => c ((lp_iff y).2 e)
    omega
theorem ys_succ {y : Int} (h : 1 ≤ y) : ys (y + 1) = ys y + 86400 * ah y 13 := by
  unfold ys
  rw [yd_succ h]
  omega
theorem ah13 (y : Int) : 365 ≤ ah y 13 ∧ ah y 13 ≤ 366 := by
  rw [ah_last]
  split <;> omega
theorem ys_mono : ∀ (n : Nat) (y : Int), 1 ≤ y → ys y + 31536000 * n ≤ ys (y + n)
  | 0, y, _ => by simp
  | n + 1, y, h => by
    have h1 := ys_mono n y h
    have h2 := ys_succ (y := y + n) (by omega)
    have h3 := ah13 (y + n)
    rw [show y + ((n + 1 : Nat) : Int) = y + n + 1 by omega]
    omega
theorem ys_le {y z : Int} (h : 1 ≤ y) (hz : y ≤ z) : ys y + 31536000 * (z - y) ≤ ys z := by
  have := ys_mono (z - y).toNat y h
  rw [show y + ((z - y).toNat : Int) = z by omega] at this
  omega
theorem ys_one : ys 1 = -62135596800 := by
  unfold ys yd
  omega
theorem ys_last : ys 10000 = 253402300800 := by
  unfold ys yd
  omega
def nth (y m w n : Int) : Int := if There y m (1 + (w - (num y m 1 + 1) % 7 + 7) % 7 + 7 * (n - 1)) then 1 + (w - (num y m 1 + 1) % 7 + 7) % 7 + 7 * (n - 1) else 1 + (w - (num y m 1 + 1) % 7 + 7) % 7 + 7 * (n - 1) - 7
theorem there_one {y m : Int} (hy : 1 ≤ y ∧ y ≤ 9999) (hm : 1 ≤ m ∧ m ≤ 12) : There y m 1 := ⟨hy, hm, by omega, by have := (ah_step y hm.1 hm.2).1; omega⟩
theorem nth_there {y m w n : Int} (hy : 1 ≤ y ∧ y ≤ 9999) (hm : 1 ≤ m ∧ m ≤ 12) (hw : 0 ≤ w ∧ w ≤ 6) (hn : 1 ≤ n ∧ n ≤ 5) : There y m (nth y m w n) := by
  unfold nth
  split
  · assumption
  · rename_i h
    have hs := (ah_step y hm.1 hm.2).1
    have hs2 := (ah_step y hm.1 hm.2).2.1
    have hx : ¬ (1 + (w - (num y m 1 + 1) % 7 + 7) % 7 + 7 * (n - 1) ≤ ah y (m + 1) - ah y m) := fun e => h ⟨hy, hm, by omega, e⟩
    exact ⟨hy, hm, by omega, by omega⟩
theorem Nth_f {y m w n : Int} (hy : 1 ≤ y ∧ y ≤ 9999) (hm : 1 ≤ m ∧ m ≤ 12) (hw : 0 ≤ w ∧ w ≤ 6) (hn : 1 ≤ n ∧ n ≤ 5) : Ev (fun k => civil_Nth.f k y m w n) (nth y m w n, 0) := by
  unfold civil_Nth.f
  rw [Weekday_f (there_one hy hm)]
  have hl := num_le (there_one hy hm)
  obtain ⟨f, hf⟩ : ∃ f, f = (num y m 1 + 1) % 7 := ⟨_, rfl⟩
  rw [← hf]
  simp only [Option.bind_some, if_true, if_neg (show ¬ w < 0 by omega), if_neg (show ¬ w > 6 by omega), if_neg (show ¬ n < 1 by omega), decide_eq_false (show ¬ n > 5 by omega)]
  refine Ev.step (f := fun _ => some (nth y m w n, 0)) (fun k => ?_) (Ev.now _)
  have hf6 : 0 ≤ f ∧ f ≤ 6 := by omega
  have e1 : wrap64 (w - f) = w - f := w_in (by omega) (by omega)
  have e2 : wrap64 (w - f + 7) = w - f + 7 := w_in (by omega) (by omega)
  have e3 : Int.tmod (w - f + 7) 7 = (w - f + 7) % 7 := r_in (by omega)
  have e4 : wrap64 (1 + (w - f + 7) % 7) = 1 + (w - f + 7) % 7 := w_in (by omega) (by omega)
  have e5 : wrap64 (n - 1) = n - 1 := w_in (by omega) (by omega)
  have e6 : wrap64 (7 * (n - 1)) = 7 * (n - 1) := w_in (by omega) (by omega)
  have e7 : wrap64 (1 + (w - f + 7) % 7 + 7 * (n - 1)) = 1 + (w - f + 7) % 7 + 7 * (n - 1) := w_in (by omega) (by omega)
  have e8 : wrap64 (1 + (w - f + 7) % 7 + 7 * (n - 1) - 7) = 1 + (w - f + 7) % 7 + 7 * (n - 1) - 7 := w_in (by omega) (by omega)
  rw [civil_Nth.j0, if_neg (by decide), e1, e2, e3, e4, e5, e6, e7, there_f, Option.bind_some, e8]
  unfold nth
  rw [← hf]
  by_cases c : There y m (1 + (w - f + 7) % 7 + 7 * (n - 1))
  · rw [if_pos (decide_eq_true c), if_pos c]
  · rw [if_neg (fun e => c (of_decide_eq_true e)), if_neg c]
theorem Nth_out {y : Int} (hy : ¬ (1 ≤ y ∧ y ≤ 9999)) (m w n : Int) : Ev (fun k => civil_Nth.f k y m w n) (0, 1) := by
  unfold civil_Nth.f civil_Weekday.f
  rw [there_f, Option.bind_some, if_neg (by simp; intro h; exact absurd h.1 hy)]
  simp only [Option.bind_some, if_neg (show ¬ (1 : Int) = 0 by decide)]
  exact Ev.step (f := fun _ => some (0, 1)) (fun k => by rw [civil_Nth.j0, if_pos rfl]) (Ev.now _)
def sw (y m w n i a : Int) : Int := ys y + 86400 * (ah y m + nth y m w n - 1) + 60 * i - 60 * a
theorem sw_bd {y m w n i a : Int} (hy : 1 ≤ y ∧ y ≤ 9999) (hm : 1 ≤ m ∧ m ≤ 12) (hw : 0 ≤ w ∧ w ≤ 6) (hn : 1 ≤ n ∧ n ≤ 5) (hi : 0 ≤ i ∧ i < 1440) : ys y + 86400 * ah y m - 60 * a ≤ sw y m w n i a ∧ sw y m w n i a < ys y + 86400 * ah y (m + 1) - 60 * a := by
  obtain ⟨_, _, h1, h2⟩ := nth_there hy hm hw hn
  unfold sw
  omega
theorem in_f {y m w n i a : Int} (b : Bool) (hy : 1 ≤ y ∧ y ≤ 9999) (hm : 1 ≤ m ∧ m ≤ 12) (hw : 0 ≤ w ∧ w ≤ 6) (hn : 1 ≤ n ∧ n ≤ 5) (hi : 0 ≤ i ∧ i < 1440) (ha : -1020 ≤ a ∧ a ≤ 1020) : Ev (fun k => zone_in.f k m n w i y a b) (sw y m w n i a, b, decide (-62135596800 ≤ sw y m w n i a) && decide (sw y m w n i a ≤ 253402300799)) := by
  unfold zone_in.f
  refine Ev.bind (Nth_f hy hm hw hn) (f := fun k bt => _) ?_
  have ht := nth_there hy hm hw hn
  have hl := num_le ht
  have e1 : Int.tdiv i 60 = i / 60 := q_in hi.1
  have e2 : Int.tmod i 60 = i % 60 := r_in hi.1
  have e3 : wrap64 (i / 60) = i / 60 := w_in (by omega) (by omega)
  have e4 := Time_f (y := y) (m := m) (d := nth y m w n) (h := i / 60) (i := i % 60) (s := 0) ⟨ht, by omega, by omega, by omega⟩ 0
  have e5 : tm y m (nth y m w n) (i / 60) (i % 60) 0 - 60 * a = sw y m w n i a := by
    unfold tm sw num ys
    omega
  have hb := sw_bd (a := a) hy hm hw hn hi
  have hl2 := yd_le hy.1 hy.2
  have ha13 := ah13 y
  have hle1 := ah_le y (a := 1) (b := m) (by omega) hm.1 (by omega)
  have hle2 := ah_le y (a := m + 1) (b := 13) (by omega) (by omega) (by omega)
  rw [ah_one] at hle1
  have hys : ys y = -62135596800 + 86400 * yd y := rfl
  have e6 : wrap64 (60 * a) = 60 * a := w_in (by omega) (by omega)
  have e7 : wrap64 (sw y m w n i a) = sw y m w n i a := w_in (by omega) (by omega)
  simp only [if_true, e1, e2, e3, e4, Option.bind_some, e6, e5, e7]
  by_cases c : sw y m w n i a ≥ -62135596800
  · simp only [if_pos c, decide_eq_true (show -62135596800 ≤ sw y m w n i a from c), Bool.true_and]
    exact Ev.now _
  · simp only [if_neg c, decide_eq_false (show ¬ -62135596800 ≤ sw y m w n i a from c), Bool.false_and]
    exact Ev.now _
theorem in_out {y : Int} (hy : ¬ (1 ≤ y ∧ y ≤ 9999)) (m w n i a : Int) (b : Bool) : Ev (fun k => zone_in.f k m n w i y a b) (0, false, false) := by
  unfold zone_in.f
  refine Ev.bind (Nth_out hy m w n) (f := fun k bt => _) ?_
  simp only [if_neg (show ¬ (1 : Int) = 0 by decide)]
  exact Ev.now _
def Zn.fr (Z : Zn) (y : Int) : Int := sw y Z.f1 Z.f3 Z.f2 Z.f4 Z.b
def Zn.to (Z : Zn) (y : Int) : Int := sw y Z.t1 Z.t3 Z.t2 Z.t4 (Z.b + Z.s)
def isT (t : Int) : Bool := decide (-62135596800 ≤ t) && decide (t ≤ 253402300799)
def tn (Z : Zn) (y : Int) : List Tn :=
  if Z.s ≠ 0 ∧ 1 ≤ y ∧ y ≤ 9999 then
    if isT (Z.fr y) = true ∧ isT (Z.to y) = true ∧ Z.to y < Z.fr y then [⟨Z.to y, false⟩, ⟨Z.fr y, true⟩]
    else (if isT (Z.fr y) = true then [⟨Z.fr y, true⟩] else []) ++ (if isT (Z.to y) = true then [⟨Z.to y, false⟩] else [])
  else []
theorem turns_f {Z : Zn} (h : Z.ok) (y : Int) : Ev (fun k => zone_clock_turns.f k Z.b Z.s Z.f1 Z.f2 Z.f3 Z.f4 Z.t1 Z.t2 Z.t3 Z.t4 y) (tn Z y) := by
  unfold zone_clock_turns.f
  by_cases c : Z.s = 0
  · simp only [if_pos c]
    have e : tn Z y = [] := by unfold tn; rw [if_neg (by simp [c])]
    rw [e]
    exact Ev.now _
  · simp only [if_neg c]
    obtain ⟨p1, p2, p3, p4, p5, p6, p7, p8⟩ := h.m1 c
    obtain ⟨q1, q2, q3, q4, q5, q6, q7, q8⟩ := h.m2 c
    have hb0 := h.b0
    have hb1 := h.b1
    have hs0 := h.s0
    have hs1 := h.s1
    have ew : wrap64 (Z.b + Z.s) = Z.b + Z.s := w_in (by omega) (by omega)
    rw [ew]
    by_cases hy : 1 ≤ y ∧ y ≤ 9999
    · refine Ev.bind (in_f true hy ⟨p1, p2⟩ ⟨p5, p6⟩ ⟨p3, p4⟩ ⟨p7, p8⟩ ⟨by omega, by omega⟩) (f := fun k bt => _) ?_
      refine Ev.bind (in_f false hy ⟨q1, q2⟩ ⟨q5, q6⟩ ⟨q3, q4⟩ ⟨q7, q8⟩ ⟨by omega, by omega⟩) (f := fun k bt => _) ?_
      have ef : (decide (-62135596800 ≤ Z.fr y) && decide (Z.fr y ≤ 253402300799)) = isT (Z.fr y) := rfl
      have et : (decide (-62135596800 ≤ Z.to y) && decide (Z.to y ≤ 253402300799)) = isT (Z.to y) := rfl
      have ef' : sw y Z.f1 Z.f3 Z.f2 Z.f4 Z.b = Z.fr y := rfl
      have et' : sw y Z.t1 Z.t3 Z.t2 Z.t4 (Z.b + Z.s) = Z.to y := rfl
      simp only [ef', et']
      simp only [ef, et]
      unfold tn
      rw [if_pos ⟨c, hy⟩]
      generalize isT (Z.fr y) = x
      generalize isT (Z.to y) = z
      cases x <;> cases z
      · simp only [Bool.false_eq_true, if_false, false_and, List.append_nil]
        exact Ev.step (f := fun _ => some []) (fun k => by rw [zone_clock_turns.j0]; simp) (Ev.now _)
      · simp only [Bool.false_eq_true, if_false, false_and, if_true, List.nil_append]
        exact Ev.step (f := fun _ => some [⟨Z.to y, false⟩]) (fun k => by rw [zone_clock_turns.j0]; simp) (Ev.now _)
      · simp only [Bool.false_eq_true, if_false, false_and, and_false, if_true, List.append_nil]
        exact Ev.step (f := fun _ => some [⟨Z.fr y, true⟩]) (fun k => by rw [zone_clock_turns.j0]; simp) (Ev.now _)
      · simp only [if_true, true_and]
        by_cases cl : Z.to y < Z.fr y
        · rw [if_pos cl, decide_eq_true cl]
          exact Ev.step (f := fun _ => some [⟨Z.to y, false⟩, ⟨Z.fr y, true⟩]) (fun k => by rw [zone_clock_turns.j0]; simp) (Ev.now _)
        · rw [if_neg cl, decide_eq_false cl]
          exact Ev.step (f := fun _ => some [⟨Z.fr y, true⟩, ⟨Z.to y, false⟩]) (fun k => by rw [zone_clock_turns.j0]; simp) (Ev.now _)
    · refine Ev.bind (in_out hy _ _ _ _ _ _) (f := fun k bt => _) ?_
      refine Ev.bind (in_out hy _ _ _ _ _ _) (f := fun k bt => _) ?_
      have e : tn Z y = [] := by unfold tn; rw [if_neg (fun h => hy h.2)]
      rw [e]
      simp only [Bool.false_eq_true, if_false]
      exact Ev.step (f := fun _ => some []) (fun k => by rw [zone_clock_turns.j0]; simp) (Ev.now _)
end Go.Proofs.YtbimjpafgiogcaaDoor.XQ
set_option linter.unusedVariables false
set_option linter.unusedSimpArgs false
namespace Go.Proofs.YtbimjpafgiogcaaDoor.XQ
open Go.RowKit Go.Proofs.YtbimjpafgiogcaaDoorW.PrintWords Go.Proofs.YtbimjpafgiogcaaDoorW.PrintLast Go.Proofs.YtbimjpafgiogcaaDoorW.PrintMore
variable {Z : Zn}
def Zn.mo (Z : Zn) (b : Bool) : Int := if b = true then Z.f1 else Z.t1
theorem tn_mem {y : Int} {x : Tn} (h : x ∈ tn Z y) : Z.s ≠ 0 ∧ (1 ≤ y ∧ y ≤ 9999) ∧ (x = ⟨Z.fr y, true⟩ ∨ x = ⟨Z.to y, false⟩) := by
  unfold tn at h
  split at h
  · rename_i c
    refine ⟨c.1, c.2, ?_⟩
    split at h
    · simp at h
      rcases h with h | h
      · exact .inr h
      · exact .inl h
    · rcases List.mem_append.mp h with h | h
      · split at h
        · simp at h; exact .inl h
        · cases h
      · split at h
        · simp at h; exact .inr h
        · cases h
  · cases h
theorem fr_bd (h : Z.ok) (hs : Z.s ≠ 0) {y : Int} (hy : 1 ≤ y ∧ y ≤ 9999) : ys y + 86400 * ah y Z.f1 - 61200 ≤ Z.fr y ∧ Z.fr y < ys y + 86400 * ah y (Z.f1 + 1) + 61200 := by
  obtain ⟨p1, p2, p3, p4, p5, p6, p7, p8⟩ := h.m1 hs
  have := sw_bd (a := Z.b) hy ⟨p1, p2⟩ ⟨p5, p6⟩ ⟨p3, p4⟩ ⟨p7, p8⟩
  have := h.b0
  have := h.b1
  unfold Zn.fr
  omega
theorem to_bd (h : Z.ok) (hs : Z.s ≠ 0) {y : Int} (hy : 1 ≤ y ∧ y ≤ 9999) : ys y + 86400 * ah y Z.t1 - 61200 ≤ Z.to y ∧ Z.to y < ys y + 86400 * ah y (Z.t1 + 1) + 61200 := by
  obtain ⟨p1, p2, p3, p4, p5, p6, p7, p8⟩ := h.m2 hs
  have := sw_bd (a := Z.b + Z.s) hy ⟨p1, p2⟩ ⟨p5, p6⟩ ⟨p3, p4⟩ ⟨p7, p8⟩
  have := h.b0
  have := h.b1
  have := h.s0
  have := h.s1
  unfold Zn.to
  omega
theorem mo_bd (h : Z.ok) (hs : Z.s ≠ 0) (b : Bool) : 1 ≤ Z.mo b ∧ Z.mo b ≤ 12 := by
  have h1 := h.m1 hs
  have h2 := h.m2 hs
  cases b
  · exact ⟨h2.1, h2.2.1⟩
  · exact ⟨h1.1, h1.2.1⟩
theorem mo_ap (h : Z.ok) (hs : Z.s ≠ 0) : Z.mo true + 2 ≤ Z.mo false ∧ Z.mo false ≤ Z.mo true + 10 ∨ Z.mo false + 2 ≤ Z.mo true ∧ Z.mo true ≤ Z.mo false + 10 := by
  have h1 := mo_bd h hs true
  have h2 := mo_bd h hs false
  have h3 := h.ap hs
  have e1 : Z.mo true = Z.f1 := rfl
  have e2 : Z.mo false = Z.t1 := rfl
  rw [e1] at h1 ⊢
  rw [e2] at h2 ⊢
  omega
theorem tn_bd (h : Z.ok) {y : Int} {x : Tn} (hx : x ∈ tn Z y) : Z.s ≠ 0 ∧ (1 ≤ y ∧ y ≤ 9999) ∧ ys y + 86400 * ah y (Z.mo x.f1) - 61200 ≤ x.f0 ∧ x.f0 < ys y + 86400 * ah y (Z.mo x.f1 + 1) + 61200 := by
  obtain ⟨hs, hy, hx⟩ := tn_mem hx
  refine ⟨hs, hy, ?_⟩
  rcases hx with rfl | rfl
  · exact fr_bd h hs hy
  · exact to_bd h hs hy
theorem tn_year (h : Z.ok) {y : Int} {x : Tn} (hx : x ∈ tn Z y) : (1 ≤ y ∧ y ≤ 9999) ∧ ys y - 61200 ≤ x.f0 ∧ x.f0 < ys (y + 1) + 61200 := by
  obtain ⟨hs, hy, h1, h2⟩ := tn_bd h hx
  obtain ⟨m1, m2⟩ := mo_bd h hs x.f1
  have a1 := ah_le y (a := 1) (b := Z.mo x.f1) (by omega) m1 (by omega)
  have a2 := ah_le y (a := Z.mo x.f1 + 1) (b := 13) (by omega) (by omega) (by omega)
  rw [ah_one] at a1
  rw [ys_succ hy.1]
  exact ⟨hy, by omega, by omega⟩
theorem tn_lt (h : Z.ok) {y z : Int} {x u : Tn} (hx : x ∈ tn Z y) (hu : u ∈ tn Z z) (hyz : y < z) : x.f0 < u.f0 := by
  obtain ⟨hs, hy, h1, h2⟩ := tn_bd h hx
  obtain ⟨_, hz, h3, h4⟩ := tn_bd h hu
  obtain ⟨m1, m2⟩ := mo_bd h hs x.f1
  obtain ⟨n1, n2⟩ := mo_bd h hs u.f1
  have a2 := ah_le y (a := Z.mo x.f1 + 1) (b := 13) (by omega) (by omega) (by omega)
  have a1 := ah_le z (a := 1) (b := Z.mo u.f1) (by omega) n1 (by omega)
  rw [ah_one] at a1
  have hm : Z.mo x.f1 ≤ Z.mo u.f1 + 10 := by
    have ap := mo_ap h hs
    cases e1 : x.f1 <;> cases e2 : u.f1 <;> rw [e1] at m1 m2 <;> rw [e2] at n1 n2 <;> omega
  have e := ys_succ hy.1
  by_cases c : z = y + 1
  · subst c
    omega
  · have := ys_le (y := y + 1) (z := z) (by omega) (by omega)
    have h13 := ah13 y
    omega
theorem tn_gap (h : Z.ok) {y : Int} {x u : Tn} (hx : x ∈ tn Z y) (hu : u ∈ tn Z y) (hm : Z.mo x.f1 + 2 ≤ Z.mo u.f1) : x.f0 < u.f0 := by
  obtain ⟨hs, hy, h1, h2⟩ := tn_bd h hx
  obtain ⟨_, _, h3, h4⟩ := tn_bd h hu
  obtain ⟨m1, m2⟩ := mo_bd h hs x.f1
  obtain ⟨n1, n2⟩ := mo_bd h hs u.f1
  have a := ah_le y (a := Z.mo x.f1 + 1) (b := Z.mo u.f1) (by omega) (by omega) (by omega)
  omega
theorem tn_same (h : Z.ok) {y : Int} {x u : Tn} (hx : x ∈ tn Z y) (hu : u ∈ tn Z y) (e : x.f0 = u.f0) : x = u := by
  obtain ⟨hs, _, kx⟩ := tn_mem hx
  obtain ⟨_, _, ku⟩ := tn_mem hu
  have ap := mo_ap h hs
  by_cases ef : x.f1 = u.f1
  · cases x; cases u
    simp only at e ef
    rw [e, ef]
  · exfalso
    have : Z.mo x.f1 + 2 ≤ Z.mo u.f1 ∨ Z.mo u.f1 + 2 ≤ Z.mo x.f1 := by
      cases e1 : x.f1 <;> cases e2 : u.f1
      · exact absurd (e1.trans e2.symm) ef
      · omega
      · omega
      · exact absurd (e1.trans e2.symm) ef
    rcases this with k | k
    · have := tn_gap h hx hu k; omega
    · have := tn_gap h hu hx k; omega
theorem sw_one (h : Z.ok) {y z : Int} {x u : Tn} (hx : x ∈ tn Z y) (hu : u ∈ tn Z z) (e : x.f0 = u.f0) : x = u := by
  rcases Int.lt_trichotomy y z with c | c | c
  · have := tn_lt h hx hu c; omega
  · subst c; exact tn_same h hx hu e
  · have := tn_lt h hu hx c; omega
theorem tn_form (h : Z.ok) (y : Int) : tn Z y = [] ∨ (∃ x, tn Z y = [x]) ∨ ∃ x u, tn Z y = [x, u] ∧ x.f0 < u.f0 := by
  by_cases c : Z.s ≠ 0 ∧ 1 ≤ y ∧ y ≤ 9999
  · by_cases c1 : isT (Z.fr y) = true ∧ isT (Z.to y) = true ∧ Z.to y < Z.fr y
    · refine .inr (.inr ⟨⟨Z.to y, false⟩, ⟨Z.fr y, true⟩, ?_, c1.2.2⟩)
      unfold tn
      rw [if_pos c, if_pos c1]
    · have e : tn Z y = (if isT (Z.fr y) = true then [⟨Z.fr y, true⟩] else []) ++ (if isT (Z.to y) = true then [⟨Z.to y, false⟩] else []) := by
        unfold tn
        rw [if_pos c, if_neg c1]
      by_cases a : isT (Z.fr y) = true
      · by_cases b : isT (Z.to y) = true
        · rw [if_pos a, if_pos b] at e
          refine .inr (.inr ⟨⟨Z.fr y, true⟩, ⟨Z.to y, false⟩, e, ?_⟩)
          have hx : (⟨Z.fr y, true⟩ : Tn) ∈ tn Z y := by rw [e]; simp
          have hu : (⟨Z.to y, false⟩ : Tn) ∈ tn Z y := by rw [e]; simp
          have hn : ¬ Z.to y < Z.fr y := fun k => c1 ⟨a, b, k⟩
          rcases mo_ap h c.1 with k | k
          · exact tn_gap h hx hu k.1
          · have := tn_gap h hu hx k.1
            exact absurd this hn
        · rw [if_pos a, if_neg b] at e
          exact .inr (.inl ⟨_, e⟩)
      · by_cases b : isT (Z.to y) = true
        · rw [if_neg a, if_pos b] at e
          exact .inr (.inl ⟨_, e⟩)
        · rw [if_neg a, if_neg b] at e
          exact .inl e
  · left
    unfold tn
    rw [if_neg c]
theorem tn_len (h : Z.ok) (y : Int) : (tn Z y).length ≤ 2 := by
  rcases tn_form h y with e | ⟨x, e⟩ | ⟨x, u, e, _⟩ <;> rw [e] <;> simp
theorem tn_ne (h : Z.ok) (hs : Z.s ≠ 0) {y : Int} (hy : 2 ≤ y ∧ y ≤ 9998) : ∃ x, x ∈ tn Z y := by
  have hb := fr_bd h hs (y := y) (by omega)
  obtain ⟨m1, m2⟩ := mo_bd h hs true
  have e1 : Z.mo true = Z.f1 := rfl
  rw [e1] at m1 m2
  have a1 := ah_le y (a := 1) (b := Z.f1) (by omega) m1 (by omega)
  have a2 := ah_le y (a := Z.f1 + 1) (b := 13) (by omega) (by omega) (by omega)
  rw [ah_one] at a1
  have y1 := ys_le (y := 1) (z := y) (by omega) (by omega)
  have y2 := ys_le (y := y + 1) (z := 10000) (by omega) (by omega)
  have y3 := ys_succ (y := y) (by omega)
  rw [ys_one] at y1
  rw [ys_last] at y2
  have ht : isT (Z.fr y) = true := by
    unfold isT
    rw [Bool.and_eq_true]
    exact ⟨decide_eq_true (by omega), decide_eq_true (by omega)⟩
  refine ⟨⟨Z.fr y, true⟩, ?_⟩
  unfold tn
  rw [if_pos ⟨hs, by omega, by omega⟩]
  split
  · simp
  · simp [ht]
def lastF (Z : Zn) (t : Int) : Nat → Int → Bool
  | 0, _ => false
  | d + 1, y => match (tn Z y).reverse.find? (fun x => decide (x.f0 ≤ t)) with
    | some x => x.f1
    | none => lastF Z t d (y - 1)
def nextF (Z : Zn) (t : Int) : Nat → Int → Option Int
  | 0, _ => none
  | d + 1, y => match (tn Z y).find? (fun x => decide (t < x.f0)) with
    | some x => some x.f0
    | none => nextF Z t d (y + 1)
theorem lastF_spec (h : Z.ok) (t : Int) : ∀ (d : Nat) (y : Int), (∃ x z, y - d < z ∧ z ≤ y ∧ x ∈ tn Z z ∧ x.f0 ≤ t ∧ x.f1 = lastF Z t d y ∧ ∀ u w, y - d < w → w ≤ y → u ∈ tn Z w → u.f0 ≤ t → u.f0 ≤ x.f0) ∨ (lastF Z t d y = false ∧ ∀ u w, y - d < w → w ≤ y → u ∈ tn Z w → t < u.f0)
  | 0, y => .inr ⟨rfl, fun u w h1 h2 => by omega⟩
  | d + 1, y => by
    cases e : (tn Z y).reverse.find? (fun x => decide (x.f0 ≤ t)) with
    | some x =>
      left
      have hm := List.mem_of_find?_eq_some e
      have hp := List.find?_some e
      simp only [List.mem_reverse] at hm
      refine ⟨x, y, by omega, by omega, hm, of_decide_eq_true hp, by rw [lastF, e], fun u w h1 h2 hu ht => ?_⟩
      by_cases c : w = y
      · subst c
        rcases tn_form h w with f | ⟨a, f⟩ | ⟨a, b, f, hab⟩
        · rw [f] at hm; cases hm
        · rw [f] at hm hu
          rw [List.mem_singleton.mp hm, List.mem_singleton.mp hu]
          omega
        · rw [f] at e hu
          simp only [List.reverse_cons, List.reverse_nil, List.nil_append, List.cons_append, List.find?_cons, List.find?_nil] at e
          by_cases hb : b.f0 ≤ t
          · rw [decide_eq_true hb] at e
            injection e with e
            subst e
            simp at hu
            rcases hu with rfl | rfl <;> omega
          · rw [decide_eq_false hb] at e
            simp at hu
            rcases hu with rfl | rfl
            · by_cases ha : u.f0 ≤ t
              · rw [decide_eq_true ha] at e
                injection e with e
                subst e
                omega
              · omega
            · omega
      · have := tn_lt h hu hm (by omega)
        omega
    | none =>
      have hn : ∀ u, u ∈ tn Z y → t < u.f0 := fun u hu => by
        have := List.find?_eq_none.mp e u (List.mem_reverse.mpr hu)
        simp at this
        omega
      have e2 : lastF Z t (d + 1) y = lastF Z t d (y - 1) := by rw [lastF, e]
      rw [e2]
      rcases lastF_spec h t d (y - 1) with ⟨x, z, h1, h2, h3, h4, h5, h6⟩ | ⟨h1, h2⟩
      · left
        refine ⟨x, z, by omega, by omega, h3, h4, h5, fun u w k1 k2 hu ht => ?_⟩
        by_cases c : w = y
        · subst c; have := hn u hu; omega
        · exact h6 u w (by omega) (by omega) hu ht
      · right
        refine ⟨h1, fun u w k1 k2 hu => ?_⟩
        by_cases c : w = y
        · subst c; exact hn u hu
        · exact h2 u w (by omega) (by omega) hu
theorem nextF_spec (h : Z.ok) (t : Int) : ∀ (d : Nat) (y : Int), (∃ n, nextF Z t d y = some n ∧ t < n ∧ (∃ x z, y ≤ z ∧ z < y + d ∧ x ∈ tn Z z ∧ x.f0 = n) ∧ ∀ u w, y ≤ w → w < y + d → u ∈ tn Z w → t < u.f0 → n ≤ u.f0) ∨ (nextF Z t d y = none ∧ ∀ u w, y ≤ w → w < y + d → u ∈ tn Z w → u.f0 ≤ t)
  | 0, y => .inr ⟨rfl, fun u w h1 h2 => by omega⟩
  | d + 1, y => by
    cases e : (tn Z y).find? (fun x => decide (t < x.f0)) with
    | some x =>
      left
      have hm := List.mem_of_find?_eq_some e
      have hp := List.find?_some e
      refine ⟨x.f0, by rw [nextF, e], of_decide_eq_true hp, ⟨x, y, by omega, by omega, hm, rfl⟩, fun u w h1 h2 hu ht => ?_⟩
      by_cases c : w = y
      · subst c
        rcases tn_form h w with f | ⟨a, f⟩ | ⟨a, b, f, hab⟩
        · rw [f] at hm; cases hm
        · rw [f] at hm hu
          rw [List.mem_singleton.mp hm, List.mem_singleton.mp hu]
          omega
        · rw [f] at e hu
          simp only [List.find?_cons, List.find?_nil] at e
          by_cases ha : t < a.f0
          · rw [decide_eq_true ha] at e
            injection e with e
            subst e
            simp at hu
            rcases hu with rfl | rfl <;> omega
          · rw [decide_eq_false ha] at e
            simp at hu
            rcases hu with rfl | rfl
            · omega
            · by_cases hb : t < u.f0
              · rw [decide_eq_true hb] at e
                injection e with e
                subst e
                omega
              · omega
      · have := tn_lt h hm hu (by omega)
        omega
    | none =>
      have hn : ∀ u, u ∈ tn Z y → u.f0 ≤ t := fun u hu => by
        have := List.find?_eq_none.mp e u hu
        simp at this
        omega
      have e2 : nextF Z t (d + 1) y = nextF Z t d (y + 1) := by rw [nextF, e]
      rw [e2]
      rcases nextF_spec h t d (y + 1) with ⟨n, h1, h2, ⟨x, z, h3, h4, h5, h6⟩, h7⟩ | ⟨h1, h2⟩
      · left
        refine ⟨n, h1, h2, ⟨x, z, by omega, by omega, h5, h6⟩, fun u w k1 k2 hu ht => ?_⟩
        by_cases c : w = y
        · subst c; have := hn u hu; omega
        · exact h7 u w (by omega) (by omega) hu ht
      · right
        refine ⟨h1, fun u w k1 k2 hu => ?_⟩
        by_cases c : w = y
        · subst c; exact hn u hu
        · exact h2 u w (by omega) (by omega) hu
def Lst (Z : Zn) (t : Int) (b : Bool) : Prop := (∃ x z, x ∈ tn Z z ∧ x.f0 ≤ t ∧ x.f1 = b ∧ ∀ u w, u ∈ tn Z w → u.f0 ≤ t → u.f0 ≤ x.f0) ∨ (b = false ∧ ∀ u w, u ∈ tn Z w → t < u.f0)
theorem last_all (h : Z.ok) {t y : Int} (hy : 1 ≤ y ∧ y ≤ 9999) (h1 : ys y ≤ t) (h2 : t < ys (y + 1)) : Lst Z t (lastF Z t 4 (y + 1)) := by
  have late : ∀ u w, u ∈ tn Z w → y + 1 < w → t < u.f0 := fun u w hu hw => by
    obtain ⟨a, b, _⟩ := tn_year h hu
    have := ys_le (y := y + 1) (z := w) (by omega) (by omega)
    omega
  rcases lastF_spec h t 4 (y + 1) with ⟨x, z, a1, a2, a3, a4, a5, a6⟩ | ⟨a1, a2⟩
  · left
    refine ⟨x, z, a3, a4, a5, fun u w hu ht => ?_⟩
    by_cases c : y + 1 < w
    · have := late u w hu c; omega
    by_cases c2 : y + 1 - (4 : Nat) < w
    · exact a6 u w c2 (by omega) hu ht
    · have := tn_lt h hu a3 (by omega)
      omega
  · right
    refine ⟨a1, fun u w hu => ?_⟩
    by_cases c : y + 1 < w
    · exact late u w hu c
    by_cases c2 : y + 1 - (4 : Nat) < w
    · exact a2 u w c2 (by omega) hu
    · exfalso
      obtain ⟨hs, hw, _⟩ := tn_mem hu
      obtain ⟨v, hv⟩ := tn_ne h hs (y := y - 2) ⟨by omega, by omega⟩
      have k := a2 v (y - 2) (by omega) (by omega) hv
      obtain ⟨_, _, k2⟩ := tn_year h hv
      have := ys_le (y := y - 2 + 1) (z := y) (by omega) (by omega)
      omega
theorem next_all (h : Z.ok) {t y : Int} (hy : 1 ≤ y ∧ y ≤ 9999) (h1 : ys y ≤ t) (h2 : t < ys (y + 1)) : (∃ n, nextF Z t 4 (y - 1) = some n ∧ t < n ∧ ∀ u w, u ∈ tn Z w → t < u.f0 → n ≤ u.f0) ∨ (nextF Z t 4 (y - 1) = none ∧ ∀ u w, u ∈ tn Z w → u.f0 ≤ t) := by
  have early : ∀ u w, u ∈ tn Z w → w < y - 1 → u.f0 ≤ t := fun u w hu hw => by
    obtain ⟨a, _, b⟩ := tn_year h hu
    have := ys_le (y := w + 1) (z := y) (by omega) (by omega)
    omega
  rcases nextF_spec h t 4 (y - 1) with ⟨n, a1, a2, ⟨x, z, a3, a4, a5, a6⟩, a7⟩ | ⟨a1, a2⟩
  · left
    refine ⟨n, a1, a2, fun u w hu ht => ?_⟩
    by_cases c : w < y - 1
    · have := early u w hu c; omega
    by_cases c2 : w < y - 1 + (4 : Nat)
    · exact a7 u w (by omega) c2 hu ht
    · have := tn_lt h a5 hu (by omega)
      omega
  · right
    refine ⟨a1, fun u w hu => ?_⟩
    by_cases c : w < y - 1
    · exact early u w hu c
    by_cases c2 : w < y - 1 + (4 : Nat)
    · exact a2 u w (by omega) c2 hu
    · exfalso
      obtain ⟨hs, hw, _⟩ := tn_mem hu
      obtain ⟨v, hv⟩ := tn_ne h hs (y := y + 2) ⟨by omega, by omega⟩
      have k := a2 v (y + 2) (by omega) (by omega) hv
      obtain ⟨_, k2, _⟩ := tn_year h hv
      have := ys_le (y := y + 1) (z := y + 2) (by omega) (by omega)
      omega
theorem lst_const (h : Z.ok) {t t' : Int} {b b' : Bool} (htt : t ≤ t') (hb : Lst Z t b) (hb' : Lst Z t' b') (hno : ∀ u w, u ∈ tn Z w → t < u.f0 → t' < u.f0) : b' = b := by
  have hle : ∀ u w, u ∈ tn Z w → u.f0 ≤ t' → u.f0 ≤ t := fun u w hu k => by
    by_cases c : t < u.f0
    · have := hno u w hu c; omega
    · omega
  rcases hb with ⟨x, z, a1, a2, a3, a4⟩ | ⟨a1, a2⟩ <;> rcases hb' with ⟨x', z', c1, c2, c3, c4⟩ | ⟨c1, c2⟩
  · have e1 := a4 x' z' c1 (hle x' z' c1 c2)
    have e2 := c4 x z a1 (by omega)
    have := sw_one h a1 c1 (by omega)
    rw [← a3, ← c3, this]
  · have := c2 x z a1
    omega
  · have := a2 x' z' c1
    have := hle x' z' c1 c2
    omega
  · rw [a1, c1]
end Go.Proofs.YtbimjpafgiogcaaDoor.XQ
set_option linter.unusedVariables false
set_option linter.unusedSimpArgs false
namespace Go.Proofs.YtbimjpafgiogcaaDoor.XQ
open Go.RowKit Go.Proofs.YtbimjpafgiogcaaDoorW.PrintWords Go.Proofs.YtbimjpafgiogcaaDoorW.PrintLast Go.Proofs.YtbimjpafgiogcaaDoorW.PrintMore
variable {Z : Zn}
theorem rd_tn (l : List Tn) (i : Nat) (h : i < l.length) : rd_T111 l (i : Int) = l[i] := by
  unfold rd_T111
  rw [Int.toNat_natCast, List.getD_eq_getElem?_getD, List.getElem?_eq_getElem h]
  rfl
theorem zsm_l1 {t y o0 o1 o2 o3 o4 o5 o6 : Int} {l : List Tn} {r0 : Bool} (hl : l.length ≤ 2) (hr : Ev (fun k => zone_clock_summer.l0 k t (wrap64 (y - 1)) Z.b Z.s Z.f1 Z.f2 Z.f3 Z.f4 Z.t1 Z.t2 Z.t3 Z.t4 o0 o1 o2 o3 o4 o5 o6) r0) : ∀ i : Nat, i ≤ l.length → Ev (fun k => zone_clock_summer.l1 k t y l ((i : Int) - 1) Z.b Z.s Z.f1 Z.f2 Z.f3 Z.f4 Z.t1 Z.t2 Z.t3 Z.t4 o0 o1 o2 o3 o4 o5 o6) (match (l.take i).reverse.find? (fun x => decide (x.f0 ≤ t)) with | some x => x.f1 | none => r0)
  | 0, _ => by
    simp only [List.take_zero, List.reverse_nil, List.find?_nil]
    exact Ev.step (fun k => by rw [zone_clock_summer.l1, if_neg (by omega)]) hr
  | i + 1, h => by
    have e : (((i + 1 : Nat) : Int) - 1) = (i : Int) := by omega
    rw [e, List.take_succ_eq_append_getElem (by omega), List.reverse_append, List.reverse_cons, List.reverse_nil, List.nil_append, List.cons_append, List.nil_append, List.find?_cons]
    by_cases c : (l[i]).f0 ≤ t
    · rw [decide_eq_true c]
      exact Ev.step (f := fun _ => some (l[i]).f1) (fun k => by rw [zone_clock_summer.l1, if_pos (by omega), if_pos (by omega), if_pos (by omega), rd_tn l i (by omega), if_pos c]) (Ev.now _)
    · rw [decide_eq_false c]
      have ih := zsm_l1 hl hr i (by omega)
      exact Ev.step (fun k => by rw [zone_clock_summer.l1, if_pos (by omega), if_pos (by omega), if_pos (by omega), rd_tn l i (by omega), if_neg c, w_in (n := (i : Int) - 1) (by omega) (by omega)]) ih
theorem zsm_l0 (h : Z.ok) {t o0 o1 o2 o3 o4 o5 o6 : Int} (h1 : 1 ≤ o0) (h2 : o0 ≤ 9999) : ∀ d : Nat, d ≤ 4 → Ev (fun k => zone_clock_summer.l0 k t (o0 - 3 + d) Z.b Z.s Z.f1 Z.f2 Z.f3 Z.f4 Z.t1 Z.t2 Z.t3 Z.t4 o0 o1 o2 o3 o4 o5 o6) (lastF Z t d (o0 - 3 + d))
  | 0, _ => Ev.step (f := fun _ => some false) (fun k => by rw [zone_clock_summer.l0, w_in (n := o0 - 2) (by omega) (by omega), if_neg (by omega)]) (Ev.now _)
  | d + 1, hd => by
    have ih := zsm_l0 h (t := t) (o0 := o0) (o1 := o1) (o2 := o2) (o3 := o3) (o4 := o4) (o5 := o5) (o6 := o6) h1 h2 d (by omega)
    refine Ev.step (f := fun k => (zone_clock_turns.f k Z.b Z.s Z.f1 Z.f2 Z.f3 Z.f4 Z.t1 Z.t2 Z.t3 Z.t4 (o0 - 3 + ((d + 1 : Nat) : Int))).bind fun l => zone_clock_summer.l1 k t (o0 - 3 + ((d + 1 : Nat) : Int)) l (wrap64 ((l.length : Int) - 1)) Z.b Z.s Z.f1 Z.f2 Z.f3 Z.f4 Z.t1 Z.t2 Z.t3 Z.t4 o0 o1 o2 o3 o4 o5 o6) (fun k => by rw [zone_clock_summer.l0, w_in (n := o0 - 2) (by omega) (by omega), if_pos (by omega)]) ?_
    refine Ev.bind (turns_f h _) (f := fun k l => _) ?_
    have hl := tn_len h (o0 - 3 + ((d + 1 : Nat) : Int))
    have ew : wrap64 (((tn Z (o0 - 3 + ((d + 1 : Nat) : Int))).length : Int) - 1) = ((tn Z (o0 - 3 + ((d + 1 : Nat) : Int))).length : Int) - 1 := w_in (by omega) (by omega)
    have ey : wrap64 (o0 - 3 + ((d + 1 : Nat) : Int) - 1) = o0 - 3 + (d : Int) := by rw [w_in (by omega) (by omega)]; omega
    have := zsm_l1 (Z := Z) (t := t) (y := o0 - 3 + ((d + 1 : Nat) : Int)) (l := tn Z (o0 - 3 + ((d + 1 : Nat) : Int))) (r0 := lastF Z t d (o0 - 3 + d)) (o0 := o0) (o1 := o1) (o2 := o2) (o3 := o3) (o4 := o4) (o5 := o5) (o6 := o6) hl (by rw [ey]; exact ih) _ (Nat.le_refl _)
    rw [List.take_length] at this
    simp only [ew]
    have el : lastF Z t (d + 1) (o0 - 3 + ((d + 1 : Nat) : Int)) = (match (tn Z (o0 - 3 + ((d + 1 : Nat) : Int))).reverse.find? (fun x => decide (x.f0 ≤ t)) with | some x => x.f1 | none => lastF Z t d (o0 - 3 + d)) := by
      rw [lastF, show o0 - 3 + ((d + 1 : Nat) : Int) - 1 = o0 - 3 + (d : Int) by omega]
      all_goals (cases (tn Z (o0 - 3 + ((d + 1 : Nat) : Int))).reverse.find? (fun x => decide (x.f0 ≤ t)) <;> rfl)
    rw [el]
    exact this
theorem tm_ys {y m d h i s : Int} (H : Mo y m d h i s) : ys y ≤ tm y m d h i s ∧ tm y m d h i s < ys (y + 1) := by
  obtain ⟨⟨a1, a2, a3, a4⟩, b1, b2, b3⟩ := H
  rw [ys_succ a1.1]
  have h1 := ah_le y (a := 1) (b := m) (by omega) a2.1 (by omega)
  have h2 := ah_le y (a := m + 1) (b := 13) (by omega) (by omega) (by omega)
  rw [ah_one] at h1
  unfold tm num ys
  omega
theorem summer_f (h : Z.ok) {t : Int} (h1 : -62135596800 ≤ t) (h2 : t ≤ 253402300799) : ∃ b, Ev (fun k => zone_clock_summer.f k Z.b Z.s Z.f1 Z.f2 Z.f3 Z.f4 Z.t1 Z.t2 Z.t3 Z.t4 t) b ∧ Lst Z t b := by
  obtain ⟨y, m, d, hh, i, s, he, hmo, ht⟩ := Of_f h1 h2
  obtain ⟨k1, k2⟩ := tm_ys hmo
  rw [ht] at k1 k2
  have hy : 1 ≤ y ∧ y ≤ 9999 := hmo.1.1
  refine ⟨lastF Z t 4 (y + 1), ?_, last_all h hy k1 k2⟩
  unfold zone_clock_summer.f
  refine Ev.bind he (f := fun k bt => _) ?_
  have := zsm_l0 h (t := t) (o0 := y) (o1 := m) (o2 := d) (o3 := hh) (o4 := i) (o5 := s) (o6 := (num y m d + 1) % 7) hy.1 hy.2 4 (by omega)
  rw [show y - 3 + ((4 : Nat) : Int) = y + 1 by omega] at this
  simp only [w_in (n := y + 1) (by omega) (by omega)]
  exact this
def Off (Z : Zn) (t o : Int) : Prop := ∃ b, Lst Z t b ∧ o = if 0 < Z.s ∧ b = true then Z.b + Z.s else Z.b
theorem off_f (h : Z.ok) {t : Int} (h1 : -62135596800 ≤ t) (h2 : t ≤ 253402300799) : ∃ o, Ev (fun k => zone_clock_offset.f k Z.b Z.s Z.f1 Z.f2 Z.f3 Z.f4 Z.t1 Z.t2 Z.t3 Z.t4 t) o ∧ Off Z t o ∧ -900 ≤ o ∧ o ≤ 1020 := by
  obtain ⟨b, hb, hl⟩ := summer_f h h1 h2
  have b0 := h.b0
  have b1 := h.b1
  have s0 := h.s0
  have s1 := h.s1
  unfold zone_clock_offset.f
  by_cases c : Z.s > 0
  · simp only [if_pos c]
    cases b with
    | true =>
      refine ⟨Z.b + Z.s, Ev.bind hb (f := fun k bt => _) ?_, ⟨true, hl, by rw [if_pos ⟨c, rfl⟩]⟩, by omega, by omega⟩
      simp only [if_true, w_in (n := Z.b + Z.s) (by omega) (by omega)]
      exact Ev.now _
    | false =>
      refine ⟨Z.b, Ev.bind hb (f := fun k bt => _) ?_, ⟨false, hl, by rw [if_neg (by simp)]⟩, by omega, by omega⟩
      simp only [Bool.false_eq_true, if_false]
      exact Ev.now _
  · simp only [if_neg c]
    exact ⟨Z.b, Ev.now _, ⟨b, hl, by rw [if_neg (fun e => c e.1)]⟩, by omega, by omega⟩
theorem off_const (h : Z.ok) {t t' o o' : Int} (htt : t ≤ t') (ho : Off Z t o) (ho' : Off Z t' o') (hno : ∀ u w, u ∈ tn Z w → t < u.f0 → t' < u.f0) : o' = o := by
  obtain ⟨b, hb, rfl⟩ := ho
  obtain ⟨b', hb', rfl⟩ := ho'
  rw [lst_const h htt hb hb' hno]
theorem off_one (h : Z.ok) {t o o' : Int} (ho : Off Z t o) (ho' : Off Z t o') : o' = o := off_const h (Int.le_refl t) ho ho' (fun _ _ _ h => h)
theorem znx_l1 {t y o0 o1 o2 o3 o4 o5 o6 : Int} {l : List Tn} {r0 : Int × Int} (hl : l.length ≤ 2) (hr : Ev (fun k => zone_Next.l0 k t (wrap64 (y + 1)) Z.b Z.s Z.f1 Z.f2 Z.f3 Z.f4 Z.t1 Z.t2 Z.t3 Z.t4 o0 o1 o2 o3 o4 o5 o6) r0) : ∀ d i : Nat, i + d = l.length → Ev (fun k => zone_Next.l1 k t y l (l.length : Int) (i : Int) Z.b Z.s Z.f1 Z.f2 Z.f3 Z.f4 Z.t1 Z.t2 Z.t3 Z.t4 o0 o1 o2 o3 o4 o5 o6) (match (l.drop i).find? (fun x => decide (t < x.f0)) with | some x => (x.f0, 0) | none => r0)
  | 0, i, h => by
    rw [List.drop_of_length_le (by omega)]
    simp only [List.find?_nil]
    exact Ev.step (fun k => by rw [zone_Next.l1, if_neg (by omega)]) hr
  | d + 1, i, h => by
    have hi : i < l.length := by omega
    rw [List.drop_eq_getElem_cons hi, List.find?_cons]
    by_cases c : t < (l[i]).f0
    · rw [decide_eq_true c]
      exact Ev.step (f := fun _ => some ((l[i]).f0, 0)) (fun k => by rw [zone_Next.l1, if_pos (by omega), if_pos (by omega), if_pos (by omega), rd_tn l i hi, if_pos c]) (Ev.now _)
    · rw [decide_eq_false c]
      have ih := znx_l1 hl hr d (i + 1) (by omega)
      exact Ev.step (fun k => by rw [zone_Next.l1, if_pos (by omega), if_pos (by omega), if_pos (by omega), rd_tn l i hi, if_neg (by omega), w_in (n := (i : Int) + 1) (by omega) (by omega), show (i : Int) + 1 = ((i + 1 : Nat) : Int) by omega]) ih
def nx (o : Option Int) : Int × Int := match o with | some n => (n, 0) | none => (0, 3)
theorem znx_l0 (h : Z.ok) {t o0 o1 o2 o3 o4 o5 o6 : Int} (h1 : 1 ≤ o0) (h2 : o0 ≤ 9999) : ∀ d : Nat, d ≤ 4 → Ev (fun k => zone_Next.l0 k t (o0 + 3 - d) Z.b Z.s Z.f1 Z.f2 Z.f3 Z.f4 Z.t1 Z.t2 Z.t3 Z.t4 o0 o1 o2 o3 o4 o5 o6) (nx (nextF Z t d (o0 + 3 - d)))
  | 0, _ => Ev.step (f := fun _ => some (0, 3)) (fun k => by rw [zone_Next.l0, w_in (n := o0 + 2) (by omega) (by omega), if_neg (by omega)]) (Ev.now _)
  | d + 1, hd => by
    have ih := znx_l0 h (t := t) (o0 := o0) (o1 := o1) (o2 := o2) (o3 := o3) (o4 := o4) (o5 := o5) (o6 := o6) h1 h2 d (by omega)
    refine Ev.step (f := fun k => (zone_clock_turns.f k Z.b Z.s Z.f1 Z.f2 Z.f3 Z.f4 Z.t1 Z.t2 Z.t3 Z.t4 (o0 + 3 - ((d + 1 : Nat) : Int))).bind fun l => zone_Next.l1 k t (o0 + 3 - ((d + 1 : Nat) : Int)) l (l.length : Int) 0 Z.b Z.s Z.f1 Z.f2 Z.f3 Z.f4 Z.t1 Z.t2 Z.t3 Z.t4 o0 o1 o2 o3 o4 o5 o6) (fun k => by rw [zone_Next.l0, w_in (n := o0 + 2) (by omega) (by omega), if_pos (by omega)]) ?_
    refine Ev.bind (turns_f h _) (f := fun k l => _) ?_
    have hl := tn_len h (o0 + 3 - ((d + 1 : Nat) : Int))
    have ey : wrap64 (o0 + 3 - ((d + 1 : Nat) : Int) + 1) = o0 + 3 - (d : Int) := by rw [w_in (by omega) (by omega)]; omega
    have := znx_l1 (Z := Z) (t := t) (y := o0 + 3 - ((d + 1 : Nat) : Int)) (l := tn Z (o0 + 3 - ((d + 1 : Nat) : Int))) (r0 := nx (nextF Z t d (o0 + 3 - d))) (o0 := o0) (o1 := o1) (o2 := o2) (o3 := o3) (o4 := o4) (o5 := o5) (o6 := o6) hl (by rw [ey]; exact ih) _ 0 (Nat.zero_add _)
    rw [List.drop_zero] at this
    have el : nx (nextF Z t (d + 1) (o0 + 3 - ((d + 1 : Nat) : Int))) = (match (tn Z (o0 + 3 - ((d + 1 : Nat) : Int))).find? (fun x => decide (t < x.f0)) with | some x => (x.f0, 0) | none => nx (nextF Z t d (o0 + 3 - d))) := by
      rw [nextF, show o0 + 3 - ((d + 1 : Nat) : Int) + 1 = o0 + 3 - (d : Int) by omega]
      all_goals (cases (tn Z (o0 + 3 - ((d + 1 : Nat) : Int))).find? (fun x => decide (t < x.f0)) <;> rfl)
    rw [el]
    exact this
theorem right_f (a b c d : Int) : ∃ r, zone_right.f a b c d = some r ∧ (r = true → 1 ≤ a ∧ a ≤ 12 ∧ 1 ≤ b ∧ b ≤ 5 ∧ 0 ≤ c ∧ c ≤ 6 ∧ 0 ≤ d ∧ d < 1440) := by
  unfold zone_right.f
  repeat' split
  all_goals first | exact ⟨_, rfl, fun h => by have := of_decide_eq_true h; omega⟩ | exact ⟨_, rfl, fun h => by cases h⟩
theorem check_f (Z : Zn) : ∃ r, Ev (fun k => zone_Check.f k Z.b Z.s Z.f1 Z.f2 Z.f3 Z.f4 Z.t1 Z.t2 Z.t3 Z.t4) r ∧ (r = 0 → Z.ok) := by
  have hj : ∀ b : Bool, (b = true → -900 ≤ Z.b ∧ Z.b ≤ 900 ∧ 0 ≤ Z.s ∧ Z.s ≤ 120) → ∃ r, Ev (fun k => zone_Check.j0 k b Z.b Z.s Z.f1 Z.f2 Z.f3 Z.f4 Z.t1 Z.t2 Z.t3 Z.t4) r ∧ (r = 0 → Z.ok) := by
    intro b hb
    obtain ⟨p, hp, kp⟩ := right_f Z.f1 Z.f2 Z.f3 Z.f4
    obtain ⟨q, hq, kq⟩ := right_f Z.t1 Z.t2 Z.t3 Z.t4
    have hs : ∀ r, (∀ k, zone_Check.j0 (k + 1) b Z.b Z.s Z.f1 Z.f2 Z.f3 Z.f4 Z.t1 Z.t2 Z.t3 Z.t4 = some r) → (r = 0 → Z.ok) → ∃ r, Ev (fun k => zone_Check.j0 k b Z.b Z.s Z.f1 Z.f2 Z.f3 Z.f4 Z.t1 Z.t2 Z.t3 Z.t4) r ∧ (r = 0 → Z.ok) := fun r h1 h2 => ⟨r, Ev.step (f := fun _ => some r) h1 (Ev.now _), h2⟩
    cases b with
    | false =>
      refine hs 2 (fun k => ?_) (fun h => by cases h)
      rw [zone_Check.j0]
      simp
    | true =>
      obtain ⟨c1, c2, c3, c4⟩ := hb rfl
      by_cases cs : Z.s = 0
      · have hz : Z.ok := ⟨c1, c2, c3, c4, fun h => absurd cs h, fun h => absurd cs h, fun h => absurd cs h⟩
        by_cases c5 : (Z.f1 == 0 && (Z.f2 == 0 && (Z.f3 == 0 && (Z.f4 == 0)))) = true
        · by_cases c6 : (Z.t1 == 0 && (Z.t2 == 0 && (Z.t3 == 0 && (Z.t4 == 0)))) = true
          · exact hs 0 (fun k => by rw [zone_Check.j0, if_pos cs, if_pos rfl, if_pos c5, if_pos c6]) (fun _ => hz)
          · exact hs 2 (fun k => by rw [zone_Check.j0, if_pos cs, if_pos rfl, if_pos c5, if_neg c6]) (fun h => by cases h)
        · exact hs 2 (fun k => by rw [zone_Check.j0, if_pos cs, if_pos rfl, if_neg c5]) (fun h => by cases h)
      · cases p with
        | false => exact hs 2 (fun k => by rw [zone_Check.j0, if_neg cs, if_pos rfl, hp]; rfl) (fun h => by cases h)
        | true =>
          cases q with
          | false => exact hs 2 (fun k => by rw [zone_Check.j0, if_neg cs, if_pos rfl, hp, Option.bind_some, if_pos rfl, hq]; rfl) (fun h => by cases h)
          | true =>
            have k1 := kp rfl
            have k2 := kq rfl
            have ea : zone_apart.f Z.b Z.s Z.f1 Z.f2 Z.f3 Z.f4 Z.t1 Z.t2 Z.t3 Z.t4 = some ((Z.f1 - Z.t1 + 12) % 12) := by
              unfold zone_apart.f
              rw [w_in (n := Z.f1 - Z.t1) (by omega) (by omega), w_in (n := Z.f1 - Z.t1 + 12) (by omega) (by omega), r_in (by omega)]
            by_cases c5 : (Z.f1 - Z.t1 + 12) % 12 ≥ 2
            · by_cases c6 : (Z.f1 - Z.t1 + 12) % 12 ≤ 10
              · exact hs 0 (fun k => by rw [zone_Check.j0, if_neg cs, if_pos rfl, hp, Option.bind_some, if_pos rfl, hq, Option.bind_some, if_pos rfl, ea, Option.bind_some, if_pos c5, Option.bind_some, if_pos c6]) (fun _ => ⟨c1, c2, c3, c4, fun _ => k1, fun _ => k2, fun _ => ⟨c5, c6⟩⟩)
              · exact hs 2 (fun k => by rw [zone_Check.j0, if_neg cs, if_pos rfl, hp, Option.bind_some, if_pos rfl, hq, Option.bind_some, if_pos rfl, ea, Option.bind_some, if_pos c5, Option.bind_some, if_neg c6]) (fun h => by cases h)
            · exact hs 2 (fun k => by rw [zone_Check.j0, if_neg cs, if_pos rfl, hp, Option.bind_some, if_pos rfl, hq, Option.bind_some, if_pos rfl, ea, Option.bind_some, if_neg c5]) (fun h => by cases h)
  unfold zone_Check.f
  by_cases c1 : Z.b ≥ -900
  · simp only [if_pos c1]
    by_cases c2 : Z.b ≤ 900
    · simp only [if_pos c2]
      by_cases c3 : Z.s ≥ 0
      · simp only [if_pos c3]
        exact hj _ (fun h => ⟨c1, c2, c3, of_decide_eq_true h⟩)
      · simp only [if_neg c3]
        exact hj false (fun h => by cases h)
    · simp only [if_neg c2]
      exact hj false (fun h => by cases h)
  · simp only [if_neg c1]
    exact hj false (fun h => by cases h)
def Zn.yes (Z : Zn) : Prop := Z.ok ∧ Ev (fun k => zone_Check.f k Z.b Z.s Z.f1 Z.f2 Z.f3 Z.f4 Z.t1 Z.t2 Z.t3 Z.t4) 0
def isTm (t : Int) : Prop := -62135596800 ≤ t ∧ t ≤ 253402300799
theorem zopen_f (h : Z.yes) {t : Int} (ht : isTm t) : Ev (fun k => zone_open.f k Z.b Z.s Z.f1 Z.f2 Z.f3 Z.f4 Z.t1 Z.t2 Z.t3 Z.t4 t) (Z.b, Z.s, Z.f1, Z.f2, Z.f3, Z.f4, Z.t1, Z.t2, Z.t3, Z.t4, 0) := by
  unfold zone_open.f
  refine Ev.bind h.2 (f := fun k bt => _) ?_
  simp only [if_true, if_neg (show ¬ t < -62135596800 from by have := ht.1; omega), if_neg (show ¬ t > 253402300799 from by have := ht.2; omega)]
  exact Ev.now _
theorem offset_f (h : Z.yes) {t : Int} (ht : isTm t) : ∃ o, Ev (fun k => zone_Offset.f k Z.b Z.s Z.f1 Z.f2 Z.f3 Z.f4 Z.t1 Z.t2 Z.t3 Z.t4 t) (o, 0) ∧ Off Z t o ∧ -900 ≤ o ∧ o ≤ 1020 := by
  obtain ⟨o, ho, h1, h2, h3⟩ := off_f h.1 ht.1 ht.2
  refine ⟨o, ?_, h1, h2, h3⟩
  unfold zone_Offset.f
  refine Ev.bind (zopen_f h ht) (f := fun k bt => _) ?_
  simp only [if_true]
  refine Ev.bind ho (f := fun k bt => _) (Ev.now _)
theorem next_f (h : Z.yes) {t : Int} (ht : isTm t) : (∃ n, Ev (fun k => zone_Next.f k Z.b Z.s Z.f1 Z.f2 Z.f3 Z.f4 Z.t1 Z.t2 Z.t3 Z.t4 t) (n, 0) ∧ t < n ∧ n ≤ 253402300799 + 1000000 ∧ ∀ u w, u ∈ tn Z w → t < u.f0 → n ≤ u.f0) ∨ (Ev (fun k => zone_Next.f k Z.b Z.s Z.f1 Z.f2 Z.f3 Z.f4 Z.t1 Z.t2 Z.t3 Z.t4 t) (0, 3) ∧ ∀ u w, u ∈ tn Z w → u.f0 ≤ t) := by
  obtain ⟨y, m, d, hh, i, s, he, hmo, htm⟩ := Of_f ht.1 ht.2
  obtain ⟨k1, k2⟩ := tm_ys hmo
  rw [htm] at k1 k2
  have hy : 1 ≤ y ∧ y ≤ 9999 := hmo.1.1
  have hev : Ev (fun k => zone_Next.f k Z.b Z.s Z.f1 Z.f2 Z.f3 Z.f4 Z.t1 Z.t2 Z.t3 Z.t4 t) (nx (nextF Z t 4 (y - 1))) := by
    unfold zone_Next.f
    refine Ev.bind (zopen_f h ht) (f := fun k bt => _) ?_
    simp only [if_true]
    refine Ev.bind he (f := fun k bt => _) ?_
    have := znx_l0 h.1 (t := t) (o0 := y) (o1 := m) (o2 := d) (o3 := hh) (o4 := i) (o5 := s) (o6 := (num y m d + 1) % 7) hy.1 hy.2 4 (by omega)
    rw [show y + 3 - ((4 : Nat) : Int) = y - 1 by omega] at this
    simp only [w_in (n := y - 1) (by omega) (by omega)]
    exact this
  rcases next_all h.1 hy k1 k2 with ⟨n, e, a1, a2⟩ | ⟨e, a1⟩
  · left
    rw [e] at hev
    refine ⟨n, hev, a1, ?_, a2⟩
    rcases nextF_spec h.1 t 4 (y - 1) with ⟨n', e', _, ⟨x, z, _, _, hx, hn⟩, _⟩ | ⟨e', _⟩
    · rw [e] at e'
      injection e' with e'
      obtain ⟨hz, _, hb⟩ := tn_year h.1 hx
      have := ys_le (y := z + 1) (z := 10000) (by omega) (by omega)
      rw [ys_last] at this
      omega
    · rw [e] at e'; cases e'
  · right
    rw [e] at hev
    exact ⟨hev, a1⟩
end Go.Proofs.YtbimjpafgiogcaaDoor.XQ
set_option linter.unusedVariables false
set_option linter.unusedSimpArgs false
namespace Go.Proofs.YtbimjpafgiogcaaDoor.Wk
abbrev Rg := Int × Int
def had (l : List Rg) (m : Int) : Bool := l.any (fun x => decide (x.1 ≤ m) && decide (m < x.2))
def nrm : Int → List Rg → Prop
  | _, [] => True
  | last, x :: l => last < x.1 ∧ x.1 < x.2 ∧ nrm x.2 l
def lastTo : Int → List Rg → Int
  | a, [] => a
  | _, x :: l => lastTo x.2 l
theorem had_iff (l : List Rg) (m : Int) : had l m = true ↔ ∃ x ∈ l, x.1 ≤ m ∧ m < x.2 := by
  unfold had
  rw [List.any_eq_true]
  simp only [Bool.and_eq_true, decide_eq_true_eq]
theorem had_cons (x : Rg) (l : List Rg) (m : Int) : had (x :: l) m = ((decide (x.1 ≤ m) && decide (m < x.2)) || had l m) := rfl
theorem had_append (a b : List Rg) (m : Int) : had (a ++ b) m = (had a m || had b m) := by unfold had; rw [List.any_append]
theorem had_one (x : Rg) (m : Int) : had [x] m = (decide (x.1 ≤ m) && decide (m < x.2)) := by simp [had]
theorem had_nil (m : Int) : had [] m = false := rfl
theorem nrm_lb : ∀ (l : List Rg) (a : Int), nrm a l → ∀ x ∈ l, a < x.1
  | [], _, _, x, h => by simp at h
  | y :: l, a, hn, x, h => by
    rcases List.mem_cons.mp h with rfl | h
    · exact hn.1
    · have := nrm_lb l y.2 hn.2.2 x h
      have := hn.1
      have := hn.2.1
      omega
theorem nrm_ne : ∀ (l : List Rg) (a : Int), nrm a l → ∀ x ∈ l, x.1 < x.2
  | [], _, _, x, h => by simp at h
  | y :: l, a, hn, x, h => by
    rcases List.mem_cons.mp h with rfl | h
    · exact hn.2.1
    · exact nrm_ne l y.2 hn.2.2 x h
theorem had_lb (l : List Rg) (a : Int) (hn : nrm a l) (m : Int) (h : had l m = true) : a < m := by
  obtain ⟨x, hx, h1, _⟩ := (had_iff l m).mp h
  have := nrm_lb l a hn x hx
  omega
theorem had_ge (x : Rg) (l : List Rg) (a : Int) (hn : nrm a (x :: l)) (m : Int) (h : had (x :: l) m = true) : x.1 ≤ m := by
  rw [had_cons] at h
  by_cases c : x.1 ≤ m
  · exact c
  · rw [decide_eq_false c, Bool.false_and, Bool.false_or] at h
    have := had_lb l x.2 hn.2.2 m h
    have := hn.2.1
    omega
theorem had_to (x : Rg) (l : List Rg) (a : Int) (hn : nrm a (x :: l)) : had (x :: l) x.2 = false := by
  cases h : had (x :: l) x.2 with
  | false => rfl
  | true =>
    rw [had_cons, decide_eq_false (show ¬ x.2 < x.2 by omega), Bool.and_false, Bool.false_or] at h
    have := had_lb l x.2 hn.2.2 x.2 h
    omega
theorem had_tail (x : Rg) (l : List Rg) (a : Int) (hn : nrm a (x :: l)) (m : Int) : had l m = (decide (x.2 < m) && had (x :: l) m) := by
  rw [had_cons]
  by_cases c : x.2 < m
  · rw [decide_eq_true c, decide_eq_false (show ¬ m < x.2 by omega), Bool.and_false, Bool.false_or, Bool.true_and]
  · rw [decide_eq_false c, Bool.false_and]
    cases h : had l m with
    | false => rfl
    | true => exact absurd (had_lb l x.2 hn.2.2 m h) c
theorem nrm_ext : ∀ (w v : List Rg) (a b : Int), nrm a w → nrm b v → (∀ m, had w m = had v m) → w = v
  | [], [], _, _, _, _, _ => rfl
  | [], y :: v, _, _, _, hv, h => by
    have h1 := h y.1
    rw [had_cons, decide_eq_true (show y.1 ≤ y.1 by omega), decide_eq_true hv.2.1] at h1
    simp [had] at h1
  | x :: w, [], _, _, hw, _, h => by
    have h1 := h x.1
    rw [had_cons, decide_eq_true (show x.1 ≤ x.1 by omega), decide_eq_true hw.2.1] at h1
    simp [had] at h1
  | x :: w, y :: v, a, b, hw, hv, h => by
    have in1 : had (x :: w) x.1 = true := by rw [had_cons, decide_eq_true (show x.1 ≤ x.1 by omega), decide_eq_true hw.2.1]; rfl
    have in2 : had (y :: v) y.1 = true := by rw [had_cons, decide_eq_true (show y.1 ≤ y.1 by omega), decide_eq_true hv.2.1]; rfl
    have f1 := had_ge y v b hv x.1 (by rw [← h]; exact in1)
    have f2 := had_ge x w a hw y.1 (by rw [h]; exact in2)
    have e1 : x.1 = y.1 := by omega
    have t1 := had_to x w a hw
    have t2 := had_to y v b hv
    have hx := hw.2.1
    have hy := hv.2.1
    have g1 : ¬ x.2 < y.2 := fun c => by
      rw [h, had_cons, decide_eq_true (show y.1 ≤ x.2 by omega), decide_eq_true c] at t1
      simp at t1
    have g2 : ¬ y.2 < x.2 := fun c => by
      rw [← h, had_cons, decide_eq_true (show x.1 ≤ y.2 by omega), decide_eq_true c] at t2
      simp at t2
    have e2 : x.2 = y.2 := by omega
    have e : x = y := Prod.ext e1 e2
    subst e
    rw [nrm_ext w v x.2 x.2 hw.2.2 hv.2.2 (fun m => by rw [had_tail x w a hw, had_tail x v b hv, h])]
theorem lastTo_snoc (a : Int) (l : List Rg) (y : Rg) : lastTo a (l ++ [y]) = y.2 := by
  induction l generalizing a with
  | nil => rfl
  | cons x l ih => exact ih x.2
theorem nrm_snoc (a : Int) (l : List Rg) (y : Rg) : nrm a (l ++ [y]) ↔ nrm a l ∧ lastTo a l < y.1 ∧ y.1 < y.2 := by
  induction l generalizing a with
  | nil => simp [nrm, lastTo]
  | cons x l ih =>
    show (a < x.1 ∧ x.1 < x.2 ∧ nrm x.2 (l ++ [y])) ↔ (a < x.1 ∧ x.1 < x.2 ∧ nrm x.2 l) ∧ lastTo x.2 l < y.1 ∧ y.1 < y.2
    rw [ih]
    constructor
    · rintro ⟨h1, h2, h3, h4, h5⟩; exact ⟨⟨h1, h2, h3⟩, h4, h5⟩
    · rintro ⟨⟨h1, h2, h3⟩, h4, h5⟩; exact ⟨h1, h2, h3, h4, h5⟩
theorem nil_or_snoc (l : List Rg) : l = [] ∨ ∃ i y, l = i ++ [y] := by
  rcases List.eq_nil_or_concat l with h | ⟨i, y, h⟩
  · exact .inl h
  · exact .inr ⟨i, y, by rw [h, List.concat_eq_append]⟩
def ext (out : List Rg) (i : Int) : List Rg :=
  match out.getLast? with
  | some y => if y.2 = i then out.dropLast ++ [(y.1, i + 1)] else out ++ [(i, i + 1)]
  | none => [(i, i + 1)]
def step (out : List Rg) (x : Rg) : List Rg :=
  if x.1 = x.2 then out else
  match out.getLast? with
  | some y => if x.1 ≤ y.2 then out.dropLast ++ [(y.1, max y.2 x.2)] else out ++ [x]
  | none => [x]
def joing (out : List Rg) (l : List Rg) : List Rg := l.foldl step out
theorem step_nil (x : Rg) : step [] x = if x.1 = x.2 then [] else [x] := rfl
theorem step_snoc (l : List Rg) (y x : Rg) : step (l ++ [y]) x = if x.1 = x.2 then l ++ [y] else if x.1 ≤ y.2 then l ++ [(y.1, max y.2 x.2)] else l ++ [y] ++ [x] := by
  unfold step
  rw [List.getLast?_concat, List.dropLast_concat]
theorem step_inv (out : List Rg) (x : Rg) (h1 : nrm (-1) out) (h2 : ∀ y ∈ out, y.1 ≤ x.1) (hx : 0 ≤ x.1) (hxx : x.1 ≤ x.2) :
    nrm (-1) (step out x) ∧ (∀ m, had (step out x) m = (had out m || had [x] m)) ∧ ∀ y ∈ step out x, y.1 ≤ x.1 := by
  rcases nil_or_snoc out with rfl | ⟨l, y, rfl⟩
  · rw [step_nil]
    by_cases c : x.1 = x.2
    · rw [if_pos c]
      refine ⟨trivial, fun m => ?_, by simp⟩
      rw [had_nil, had_one, Bool.false_or]
      by_cases d : m < x.2
      · rw [decide_eq_false (show ¬ x.1 ≤ m by omega)]; rfl
      · rw [decide_eq_false d, Bool.and_false]
    · rw [if_neg c]
      refine ⟨⟨by omega, by omega, trivial⟩, fun m => by rw [had_nil, Bool.false_or], fun y hy => by rw [List.mem_singleton] at hy; rw [hy]; omega⟩
  · rw [step_snoc]
    obtain ⟨g1, g2, g3⟩ := (nrm_snoc _ _ _).mp h1
    have hyx := h2 y (by simp)
    by_cases c : x.1 = x.2
    · rw [if_pos c]
      refine ⟨h1, fun m => ?_, h2⟩
      rw [had_one]
      by_cases d : m < x.2
      · rw [decide_eq_false (show ¬ x.1 ≤ m by omega)]; simp
      · rw [decide_eq_false d]; simp
    · rw [if_neg c]
      by_cases c2 : x.1 ≤ y.2
      · rw [if_pos c2]
        have hm1 : y.2 ≤ max y.2 x.2 := Int.le_max_left _ _
        have hm2 : x.2 ≤ max y.2 x.2 := Int.le_max_right _ _
        have hm3 : max y.2 x.2 = y.2 ∨ max y.2 x.2 = x.2 := by
          rcases Int.le_total y.2 x.2 with h | h
          · right; exact Int.max_eq_right h
          · left; exact Int.max_eq_left h
        refine ⟨(nrm_snoc _ _ _).mpr ⟨g1, g2, by show y.1 < max y.2 x.2; omega⟩, fun m => ?_, fun z hz => ?_⟩
        · rw [had_append, had_append, had_one, had_one, had_one, Bool.or_assoc]
          congr 1
          show (decide (y.1 ≤ m) && decide (m < max y.2 x.2)) = _
          generalize max y.2 x.2 = M at *
          by_cases d1 : y.1 ≤ m
          · by_cases d2 : m < y.2
            · rw [decide_eq_true d1, decide_eq_true d2, decide_eq_true (show m < M by omega)]; simp
            · by_cases d3 : m < x.2
              · rw [decide_eq_true d1, decide_eq_true d3, decide_eq_true (show m < M by omega), decide_eq_true (show x.1 ≤ m by omega)]; simp
              · rw [decide_eq_false d2, decide_eq_false d3, decide_eq_false (show ¬ m < M by omega)]; simp
          · rw [decide_eq_false d1, decide_eq_false (show ¬ x.1 ≤ m by omega)]; simp
        · rcases List.mem_append.mp hz with hz | hz
          · exact h2 z (by simp [hz])
          · rw [List.mem_singleton] at hz; rw [hz]; exact hyx
      · rw [if_neg c2]
        refine ⟨(nrm_snoc _ _ _).mpr ⟨h1, by rw [lastTo_snoc]; omega, by omega⟩, fun m => by rw [had_append _ [x]], fun z hz => ?_⟩
        rcases List.mem_append.mp hz with hz | hz
        · exact h2 z hz
        · rw [List.mem_singleton] at hz; rw [hz]; omega
theorem joing_inv : ∀ (l out : List Rg), nrm (-1) out → (∀ y ∈ out, ∀ x ∈ l, y.1 ≤ x.1) → l.Pairwise (fun a b => a.1 ≤ b.1) → (∀ x ∈ l, 0 ≤ x.1 ∧ x.1 ≤ x.2) →
    nrm (-1) (joing out l) ∧ ∀ m, had (joing out l) m = (had out m || had l m)
  | [], out, h1, _, _, _ => ⟨h1, fun m => by rw [had_nil, Bool.or_false]; rfl⟩
  | x :: l, out, h1, h2, h3, h4 => by
    have hx := h4 x List.mem_cons_self
    obtain ⟨g1, g2, g3⟩ := step_inv out x h1 (fun y hy => h2 y hy x List.mem_cons_self) hx.1 hx.2
    rw [List.pairwise_cons] at h3
    obtain ⟨k1, k2⟩ := joing_inv l (step out x) g1 (fun y hy z hz => by
      have a1 := g3 y hy
      have a2 := h3.1 z hz
      omega) h3.2 (fun z hz => h4 z (List.mem_cons_of_mem _ hz))
    refine ⟨k1, fun m => ?_⟩
    show had (joing (step out x) l) m = _
    rw [k2, g2, Bool.or_assoc, ← had_append [x] l]
    rfl
end Go.Proofs.YtbimjpafgiogcaaDoor.Wk
set_option linter.unusedVariables false
set_option linter.unusedSimpArgs false
namespace Go.Proofs.YtbimjpafgiogcaaDoor.XQ
open Go.RowKit Go.Proofs.YtbimjpafgiogcaaDoorW.PrintWords Go.Proofs.YtbimjpafgiogcaaDoorW.PrintLast Go.Proofs.YtbimjpafgiogcaaDoorW.PrintMore Go.Proofs.YtbimjpafgiogcaaDoor.Wk
abbrev Sg := S45
def pr (x : Sg) : Rg := (x.f0, x.f1)
def mk (x : Rg) : Sg := ⟨x.1, x.2⟩
def prs (l : List Sg) : List Rg := l.map pr
theorem prs_mk (l : List Rg) : prs (l.map mk) = l := by unfold prs; rw [List.map_map]; exact List.map_id' l
theorem prs_len (l : List Sg) : (prs l).length = l.length := List.length_map _
theorem prs_get (l : List Sg) (i : Nat) (h : i < (prs l).length) (h' : i < l.length) : (prs l)[i] = pr l[i] := List.getElem_map _
theorem prs_cons (x : Sg) (l : List Sg) : prs (x :: l) = pr x :: prs l := rfl
theorem prs_append (a b : List Sg) : prs (a ++ b) = prs a ++ prs b := List.map_append
theorem wrap_k (i : Nat) (h : i ≤ 9000000000000000000) : wrap64 ((i : Int) + 1) = ((i + 1 : Nat) : Int) := by unfold wrap64; omega
theorem rd_eq (l : List Sg) (i : Nat) (h : i < l.length) : rd_T45 l (i : Int) = l[i] := by
  unfold rd_T45
  rw [Int.toNat_natCast, List.getD_eq_getElem?_getD, List.getElem?_eq_getElem h]
  rfl
theorem mx_eq (a b : Int) : mx a b = max a b := by
  unfold mx
  by_cases h : a < b
  · rw [if_pos h, Int.max_eq_right (by omega)]
  · rw [if_neg h, Int.max_eq_left (by omega)]
def okB : Int → List Sg → Bool
  | _, [] => true
  | last, x :: l => decide (last < x.f0) && (decide (x.f0 < x.f1) && (decide (x.f1 ≤ 10080) && okB x.f1 l))
def rightB (l : List Sg) : Bool := okB (-1) l && decide (l.length ≤ 64)
theorem okB_nrm : ∀ (l : List Sg) (a : Int), okB a l = true → nrm a (prs l) ∧ ∀ x ∈ l, x.f1 ≤ 10080
  | [], _, _ => ⟨trivial, by simp⟩
  | x :: l, a, h => by
    simp only [okB, Bool.and_eq_true, decide_eq_true_eq] at h
    obtain ⟨h1, h2, h3, h4⟩ := h
    obtain ⟨g1, g2⟩ := okB_nrm l x.f1 h4
    refine ⟨⟨h1, h2, g1⟩, fun y hy => ?_⟩
    rcases List.mem_cons.mp hy with rfl | hy
    · exact h3
    · exact g2 y hy
theorem nrm_okB : ∀ (l : List Sg) (a : Int), nrm a (prs l) → (∀ x ∈ l, x.f1 ≤ 10080) → okB a l = true
  | [], _, _, _ => rfl
  | x :: l, a, h, hb => by
    obtain ⟨h1, h2, h3⟩ := h
    have := nrm_okB l x.f1 h3 (fun y hy => hb y (List.mem_cons_of_mem _ hy))
    simp only [okB, Bool.and_eq_true, decide_eq_true_eq]
    exact ⟨h1, h2, hb x List.mem_cons_self, this⟩
theorem check_l0 (l : List Sg) (hl : l.length ≤ 1000000) : ∀ (m k i : Nat) (last : Int), i + m = l.length → m + 1 ≤ k → week_Check.l0 k l last l (l.length : Int) (i : Int) = some (if (okB last (l.drop i) && decide (l.length ≤ 64)) = true then 0 else 2)
  | 0, k, i, last, h, hk => by
    obtain ⟨k, rfl⟩ : ∃ m, k = m + 1 := ⟨k - 1, by omega⟩
    rw [week_Check.l0, if_neg (by omega), List.drop_of_length_le (by omega)]
    by_cases c : l.length ≤ 64
    · rw [if_neg (by omega), decide_eq_true c]; rfl
    · rw [if_pos (by omega), decide_eq_false c]; rfl
  | m + 1, k, i, last, h, hk => by
    obtain ⟨k, rfl⟩ : ∃ m, k = m + 1 := ⟨k - 1, by omega⟩
    have hi : i < l.length := by omega
    rw [week_Check.l0, if_pos (by omega), if_pos (by omega), if_pos (by omega), rd_eq l i hi, List.drop_eq_getElem_cons hi, okB]
    by_cases c1 : last < l[i].f0
    · rw [if_neg (by omega), decide_eq_true c1]
      by_cases c2 : l[i].f0 < l[i].f1
      · rw [if_neg (by omega), decide_eq_true c2]
        by_cases c3 : l[i].f1 ≤ 10080
        · rw [if_neg (by omega), decide_eq_true c3, wrap_k i (by omega)]
          simp only [Bool.true_and]
          exact check_l0 l hl m k (i + 1) l[i].f1 (by omega) (by omega)
        · rw [if_pos (by omega), decide_eq_false c3]; rfl
      · rw [if_pos (by omega), decide_eq_false c2]; rfl
    · rw [if_pos (by omega), decide_eq_false c1]; rfl
theorem check_eq (l : List Sg) (hl : l.length ≤ 1000000) (k : Nat) (hk : 1000010 ≤ k) : week_Check.f k l = some (if rightB l = true then 0 else 2) :=
  check_l0 l hl l.length k 0 (-1) (by omega) (by omega)
theorem right_nrm (l : List Sg) (h : rightB l = true) : nrm (-1) (prs l) ∧ (∀ x ∈ l, x.f1 ≤ 10080) ∧ l.length ≤ 64 := by
  unfold rightB at h
  simp only [Bool.and_eq_true, decide_eq_true_eq] at h
  obtain ⟨h1, h2⟩ := okB_nrm l (-1) h.1
  exact ⟨h1, h2, h.2⟩
def jn (J : List Rg) : List Sg × Int := if J.length ≤ 64 then (J.map mk, 0) else ([], 12)
theorem join_l0 (ls : List Sg) (hl : ls.length ≤ 1000) : ∀ (m k i : Nat) (out : List Rg), i + m = ls.length → m + 1 ≤ k → out.length ≤ i → week_join.l0 k (out.map mk) ls (ls.length : Int) (i : Int) = some (jn (joing out ((prs ls).drop i)))
  | 0, k, i, out, h, hk, ho => by
    obtain ⟨k, rfl⟩ : ∃ m, k = m + 1 := ⟨k - 1, by omega⟩
    rw [week_join.l0, if_neg (by omega), List.drop_of_length_le (by rw [prs_len]; omega)]
    unfold jn joing
    rw [List.foldl_nil, List.length_map]
    by_cases c : out.length ≤ 64
    · rw [if_neg (by omega), if_pos c]
    · rw [if_pos (by omega), if_neg c]
  | m + 1, k, i, out, h, hk, ho => by
    obtain ⟨k, rfl⟩ : ∃ m, k = m + 1 := ⟨k - 1, by omega⟩
    have hi : i < ls.length := by omega
    have hd : (prs ls).drop i = pr ls[i] :: (prs ls).drop (i + 1) := by
      rw [List.drop_eq_getElem_cons (by rw [prs_len]; exact hi)]
      unfold prs
      rw [List.getElem_map]
    have hj : joing out ((prs ls).drop i) = joing (Wk.step out (pr ls[i])) ((prs ls).drop (i + 1)) := by rw [hd]; rfl
    rw [week_join.l0, if_pos (by omega), if_pos (by omega), if_pos (by omega), rd_eq ls i hi, hj, wrap_k i (by omega)]
    generalize ls[i] = x
    by_cases c1 : x.f0 = x.f1
    · have hs : Wk.step out (pr x) = out := by
        unfold Wk.step
        rw [if_pos (show (pr x).1 = (pr x).2 from c1)]
      rw [if_pos c1, hs]
      exact join_l0 ls hl m k (i + 1) out (by omega) (by omega) (by omega)
    · rw [if_neg c1]
      rcases nil_or_snoc out with rfl | ⟨l, y, rfl⟩
      · have hw : wrap64 ((([] : List Rg).map mk).length - 1) = -1 := by unfold wrap64; simp
        rw [hw, if_neg (by decide), if_pos (by simp), step_nil, if_neg (show ¬ (pr x).1 = (pr x).2 from c1)]
        exact join_l0 ls hl m k (i + 1) [pr x] (by omega) (by omega) (by simp)
      · rw [List.length_append, List.length_singleton] at ho
        have hlen : ((l ++ [y]).map mk).length = l.length + 1 := by simp
        have hw : wrap64 ((((l ++ [y]).map mk).length : Int) - 1) = (l.length : Int) := by rw [hlen]; unfold wrap64; omega
        have hrd : rd_T45 ((l ++ [y]).map mk) (l.length : Int) = mk y := by
          rw [rd_eq _ _ (by rw [hlen]; omega), List.getElem_map]
          congr 1
          simp
        rw [hw, if_pos (by omega), if_pos (by omega), if_pos (by rw [hlen]; omega), hrd, step_snoc, if_neg (show ¬ (pr x).1 = (pr x).2 from c1)]
        by_cases c2 : x.f0 ≤ y.2
        · have hset : ((l ++ [y]).map mk).set ((l.length : Int)).toNat (⟨(mk y).f0, mx (mk y).f1 x.f1⟩ : S45) = (l ++ [(y.1, max y.2 x.f1)]).map mk := by
            rw [Int.toNat_natCast, List.map_append, List.map_append, List.set_append_right _ _ (by simp), mx_eq]
            simp [mk]
          rw [if_pos (show x.f0 ≤ (mk y).f1 from c2), if_pos (show (pr x).1 ≤ y.2 from c2), hset]
          exact join_l0 ls hl m k (i + 1) _ (by omega) (by omega) (by rw [List.length_append, List.length_singleton]; omega)
        · have ha : (l ++ [y]).map mk ++ [(⟨x.f0, x.f1⟩ : S45)] = (l ++ [y] ++ [pr x]).map mk := by rw [List.map_append (l₁ := l ++ [y])]; rfl
          rw [if_neg (show ¬ x.f0 ≤ (mk y).f1 from c2), if_neg (show ¬ (pr x).1 ≤ y.2 from c2), if_pos (by rw [hlen]; omega), ha]
          exact join_l0 ls hl m k (i + 1) _ (by omega) (by omega) (by rw [List.length_append, List.length_append, List.length_singleton, List.length_singleton]; omega)
theorem srt_perm (l : List Sg) : (week_S.srt l).Perm l := by
  unfold week_S.srt
  by_cases c : l.length = 0
  · rw [if_pos c, List.eq_nil_of_length_eq_zero c]
  · rw [if_neg c]
    obtain ⟨⟨h1, _, h3⟩, _⟩ := week_S.sorts l
    have e1 : (week_S.pdq l).extract 0 l.toArray.size = week_S.pdq l := by rw [← h1]; exact Array.extract_size
    have e2 : l.toArray.extract 0 l.toArray.size = l.toArray := Array.extract_size
    rw [e1, e2] at h3
    exact h3
theorem srt_sorted (l : List Sg) : (prs (week_S.srt l)).Pairwise (fun a b => a.1 ≤ b.1) := by
  letI : Inhabited Sg := ⟨z45⟩
  unfold week_S.srt
  by_cases c : l.length = 0
  · rw [if_pos c]; exact List.Pairwise.nil
  · rw [if_neg c]
    obtain ⟨⟨h1, _, _⟩, h4⟩ := week_S.sorts l
    refine List.pairwise_iff_getElem.mpr fun i j hi hj hij => ?_
    rw [prs_len, Array.length_toList] at hi hj
    have h := h4 i j (Nat.zero_le _) hij (by rw [← h1]; exact hj)
    rw [week_S.lt_eq, getElem!_pos (week_S.pdq l) j hj, getElem!_pos (week_S.pdq l) i hi, decide_eq_false_iff_not] at h
    rw [prs_get _ _ _ (by rw [Array.length_toList]; exact hi), prs_get _ _ _ (by rw [Array.length_toList]; exact hj), Array.getElem_toList, Array.getElem_toList]
    show (week_S.pdq l)[i].f0 ≤ (week_S.pdq l)[j].f0
    omega
theorem had_perm {a b : List Sg} (h : a.Perm b) (m : Int) : had (prs a) m = had (prs b) m := by
  rw [Bool.eq_iff_iff, had_iff, had_iff]
  unfold prs
  constructor
  · rintro ⟨x, hx, h2⟩
    obtain ⟨y, hy, rfl⟩ := List.mem_map.mp hx
    exact ⟨pr y, List.mem_map.mpr ⟨y, h.mem_iff.mp hy, rfl⟩, h2⟩
  · rintro ⟨x, hx, h2⟩
    obtain ⟨y, hy, rfl⟩ := List.mem_map.mp hx
    exact ⟨pr y, List.mem_map.mpr ⟨y, h.mem_iff.mpr hy, rfl⟩, h2⟩
theorem join_eq (l : List Sg) (hl : l.length ≤ 1000) (hb : ∀ x ∈ l, 0 ≤ x.f0 ∧ x.f0 ≤ x.f1) (k : Nat) (hk : 1100 ≤ k) : ∃ J : List Rg, nrm (-1) J ∧ (∀ m, had J m = had (prs l) m) ∧ week_join.f k l = some (jn J) := by
  have hp := srt_perm l
  have hlen := hp.length_eq
  obtain ⟨h1, h2⟩ := joing_inv (prs (week_S.srt l)) [] trivial (by simp) (srt_sorted l) (fun x hx => by
    obtain ⟨y, hy, rfl⟩ := List.mem_map.mp hx
    exact hb y (hp.mem_iff.mp hy))
  refine ⟨joing [] (prs (week_S.srt l)), h1, fun m => by rw [h2, had_nil, Bool.false_or, had_perm hp], ?_⟩
  unfold week_join.f api_Range_20.f
  rw [if_pos (by omega), Option.bind_some]
  unfold week_join.g
  have h := join_l0 (week_S.srt l) (by omega) (week_S.srt l).length k 0 [] (by omega) (by omega) (by simp)
  rw [List.drop_zero] at h
  exact h
theorem jn_bind (p : Option (List Sg × Int)) (q : List Sg × Int) (h : p = some q) : (p.bind fun bt => some (bt.1, bt.2)) = some q := by rw [h]; rfl
theorem had_bound (J : List Rg) (a : Int) (hn : nrm a J) (M : Int) (h : ∀ m, had J m = true → m < M) : ∀ x ∈ J, x.2 ≤ M := by
  intro x hx
  have h1 := nrm_ne J a hn x hx
  have := h (x.2 - 1) ((had_iff J _).mpr ⟨x, hx, by omega, by omega⟩)
  omega
theorem jn_right (J : List Rg) (hn : nrm (-1) J) (h : ∀ m, had J m = true → m < 10080) (hl : J.length ≤ 64) : rightB (J.map mk) = true := by
  unfold rightB
  rw [nrm_okB _ _ (by rw [prs_mk]; exact hn) (fun x hx => by
    obtain ⟨y, hy, rfl⟩ := List.mem_map.mp hx
    exact had_bound J (-1) hn 10080 h y hy), List.length_map, decide_eq_true hl]
  rfl
theorem any_had (l : List Sg) (n : Int) : l.any (week_has.p n) = had (prs l) n := by
  unfold had prs
  rw [List.any_map]
  rfl
theorem minute_eq (l : List Sg) (hl : l.length ≤ 1000000) (n : Int) (k : Nat) (hk : 1000010 ≤ k) : week_minute.f k l n = some (if rightB l = true then (if 0 ≤ n ∧ n < 10080 then 0 else 1) else 2) := by
  unfold week_minute.f
  rw [check_eq l hl k hk, Option.bind_some]
  by_cases c : rightB l = true
  · rw [if_pos c, if_pos rfl, if_pos c]
    by_cases c1 : n < 0
    · rw [if_pos c1, if_neg (by omega)]
    · rw [if_neg c1]
      by_cases c2 : n ≥ 10080
      · rw [if_pos c2, if_neg (by omega)]
      · rw [if_neg c2, if_pos (by omega)]
  · rw [if_neg c, if_neg (by decide), if_neg c]
theorem has_eq (l : List Sg) (hl : l.length ≤ 1000000) (n : Int) (k : Nat) (hk : 1000010 ≤ k) : week_Has.f k l n = some (if rightB l = true then (if 0 ≤ n ∧ n < 10080 then (had (prs l) n, 0) else (false, 1)) else (false, 2)) := by
  unfold week_Has.f
  rw [minute_eq l hl n k hk, Option.bind_some]
  by_cases c : rightB l = true
  · rw [if_pos c, if_pos c]
    by_cases c1 : 0 ≤ n ∧ n < 10080
    · rw [if_pos c1, if_pos rfl, if_pos c1]
      unfold week_has.f
      rw [Option.bind_some, any_had]
    · rw [if_neg c1, if_neg (by decide), if_neg c1]
  · rw [if_neg c, if_neg (by decide), if_neg c]
def compl : Int → List Sg → List Sg
  | from_, [] => if from_ < 10080 then [⟨from_, 10080⟩] else []
  | from_, x :: l => (if from_ < x.f0 then [⟨from_, x.f0⟩] else []) ++ compl x.f1 l
theorem not_l0 (l : List Sg) (hl : l.length ≤ 1000) : ∀ (m k i : Nat) (out : List Sg) (a : Int), i + m = l.length → m + 1 ≤ k → out.length ≤ i → week_not.l0 k out a l (l.length : Int) (i : Int) = some (out ++ compl a (l.drop i))
  | 0, k, i, out, a, h, hk, ho => by
    obtain ⟨k, rfl⟩ : ∃ m, k = m + 1 := ⟨k - 1, by omega⟩
    rw [week_not.l0, if_neg (by omega), List.drop_of_length_le (by omega), compl]
    by_cases c : a < 10080
    · rw [if_pos c, if_pos (by omega), if_pos c]
    · rw [if_neg c, if_neg c, List.append_nil]
  | m + 1, k, i, out, a, h, hk, ho => by
    obtain ⟨k, rfl⟩ : ∃ m, k = m + 1 := ⟨k - 1, by omega⟩
    have hi : i < l.length := by omega
    rw [week_not.l0, if_pos (by omega), if_pos (by omega), if_pos (by omega), rd_eq l i hi, wrap_k i (by omega), List.drop_eq_getElem_cons hi, compl]
    generalize l[i] = x
    by_cases c : a < x.f0
    · rw [if_pos c, if_pos (by omega), if_pos c, ← List.append_assoc]
      exact not_l0 l hl m k (i + 1) _ _ (by omega) (by omega) (by rw [List.length_append]; simp; omega)
    · rw [if_neg c, if_neg c, List.nil_append]
      exact not_l0 l hl m k (i + 1) _ _ (by omega) (by omega) (by omega)
theorem not_eq (l : List Sg) (hl : l.length ≤ 1000) (k : Nat) (hk : 1010 ≤ k) : week_not.f k l = some (compl 0 l) := by
  have h := not_l0 l hl l.length k 0 [] 0 (by omega) (by omega) (by simp)
  rw [List.drop_zero, List.nil_append] at h
  exact h
theorem compl_had : ∀ (l : List Sg) (a : Int), nrm (a - 1) (prs l) → (∀ x ∈ l, x.f1 ≤ 10080) → ∀ m : Int, had (prs (compl a l)) m = (decide (a ≤ m) && decide (m < 10080) && !had (prs l) m)
  | [], a, _, _, m => by
    unfold compl
    by_cases c : a < 10080
    · rw [if_pos c]; simp [had, prs, pr]
    · rw [if_neg c, Bool.eq_iff_iff]; simp [had, prs]; omega
  | x :: l, a, hn, hb, m => by
    have hx := hb x List.mem_cons_self
    obtain ⟨h1, h2, h3⟩ := hn
    have h1' : a - 1 < x.f0 := h1
    have h2' : x.f0 < x.f1 := h2
    have hn3 : nrm x.f1 (prs l) := h3
    have ih := compl_had l x.f1 (by
      cases l with
      | nil => trivial
      | cons y l => exact ⟨by have := hn3.1; show x.f1 - 1 < y.f0; have : x.f1 < y.f0 := hn3.1; omega, hn3.2⟩) (fun y hy => hb y (List.mem_cons_of_mem _ hy)) m
    have hlb := had_lb (prs l) x.f1 hn3 m
    unfold compl
    rw [prs_append, had_append, ih, prs_cons, had_cons]
    show _ = (decide (a ≤ m) && decide (m < 10080) && !((decide (x.f0 ≤ m) && decide (m < x.f1)) || had (prs l) m))
    have hfirst : had (prs (if a < x.f0 then [(⟨a, x.f0⟩ : Sg)] else [])) m = (decide (a ≤ m) && decide (m < x.f0)) := by
      by_cases c : a < x.f0
      · rw [if_pos c]; simp [had, prs, pr]
      · rw [if_neg c, Bool.eq_iff_iff]; simp [had, prs]; omega
    rw [hfirst]
    cases hh : had (prs l) m with
    | true =>
      have := hlb hh
      rw [Bool.eq_iff_iff]
      simp
      omega
    | false =>
      rw [Bool.eq_iff_iff]
      simp
      omega
theorem compl_nrm : ∀ (l : List Sg) (a b : Int), b < a → nrm (a - 1) (prs l) → (∀ x ∈ l, x.f1 ≤ 10080) → nrm b (prs (compl a l))
  | [], a, b, hb, _, _ => by
    unfold compl
    by_cases c : a < 10080
    · rw [if_pos c]; exact ⟨hb, c, trivial⟩
    · rw [if_neg c]; trivial
  | x :: l, a, b, hb, hn, hx => by
    obtain ⟨h1, h2, h3⟩ := hn
    have h1' : a - 1 < x.f0 := h1
    have h2' : x.f0 < x.f1 := h2
    have hn3 : nrm x.f1 (prs l) := h3
    have hn4 : nrm (x.f1 - 1) (prs l) := by
      cases l with
      | nil => trivial
      | cons y l => exact ⟨by show x.f1 - 1 < y.f0; have : x.f1 < y.f0 := hn3.1; omega, hn3.2⟩
    unfold compl
    by_cases c : a < x.f0
    · rw [if_pos c]
      exact ⟨hb, c, compl_nrm l x.f1 x.f0 h2' hn4 (fun y hy => hx y (List.mem_cons_of_mem _ hy))⟩
    · rw [if_neg c, List.nil_append]
      exact compl_nrm l x.f1 b (by omega) hn4 (fun y hy => hx y (List.mem_cons_of_mem _ hy))
theorem nrm_down {a b : Int} (h : b ≤ a) : ∀ {l : List Rg}, nrm a l → nrm b l
  | [], _ => trivial
  | x :: l, hn => ⟨by have := hn.1; omega, hn.2⟩
end Go.Proofs.YtbimjpafgiogcaaDoor.XQ
set_option linter.unusedVariables false
set_option linter.unusedSimpArgs false
namespace Go.Proofs.YtbimjpafgiogcaaDoor.XQ
open Go.RowKit Go.Proofs.YtbimjpafgiogcaaDoorW.PrintWords Go.Proofs.YtbimjpafgiogcaaDoorW.PrintLast Go.Proofs.YtbimjpafgiogcaaDoorW.PrintMore Go.Proofs.YtbimjpafgiogcaaDoor.Wk
def tot (l : List Sg) : Int := (l.map (fun x : Sg => x.f1 - x.f0)).sum
theorem tot_cons (x : Sg) (l : List Sg) : tot (x :: l) = (x.f1 - x.f0) + tot l := by
  unfold tot
  rw [List.map_cons, List.sum_cons]
theorem sum_l0 (l : List Sg) (hl : l.length ≤ 64) (hb : ∀ x ∈ l, 0 ≤ x.f0 ∧ x.f0 ≤ x.f1 ∧ x.f1 ≤ 10080) : ∀ (m k i : Nat) (acc : Int), i + m = l.length → m + 1 ≤ k → 0 ≤ acc → acc ≤ 10080 * i → week_Sum.l0 k acc l (l.length : Int) (i : Int) = some (acc + tot (l.drop i), 0)
  | 0, k, i, acc, h, hk, h0, h1 => by
    obtain ⟨k, rfl⟩ : ∃ m, k = m + 1 := ⟨k - 1, by omega⟩
    rw [week_Sum.l0, if_neg (by omega), List.drop_of_length_le (by omega)]
    simp [tot]
  | m + 1, k, i, acc, h, hk, h0, h1 => by
    obtain ⟨k, rfl⟩ : ∃ m, k = m + 1 := ⟨k - 1, by omega⟩
    have hi : i < l.length := by omega
    obtain ⟨g1, g2, g3⟩ := hb l[i] (List.getElem_mem hi)
    have e : tot (l.drop i) = (l[i].f1 - l[i].f0) + tot (l.drop (i + 1)) := by
      rw [List.drop_eq_getElem_cons hi, tot_cons]
    rw [week_Sum.l0, if_pos (by omega), if_pos (by omega), if_pos (by omega), rd_eq l i hi, wrap_k i (by omega), e]
    generalize l[i] = x at g1 g2 g3 ⊢
    have w1 : wrap64 (x.f1 - x.f0) = x.f1 - x.f0 := by unfold wrap64; omega
    have w2 : wrap64 (acc + (x.f1 - x.f0)) = acc + (x.f1 - x.f0) := by unfold wrap64; omega
    rw [w1, w2, sum_l0 l hl hb m k (i + 1) _ (by omega) (by omega) (by omega) (by omega), Int.add_assoc]
theorem right_bounds (l : List Sg) (h : rightB l = true) : ∀ x ∈ l, 0 ≤ x.f0 ∧ x.f0 < x.f1 ∧ x.f1 ≤ 10080 := by
  obtain ⟨h1, h2, _⟩ := right_nrm l h
  intro x hx
  have hm : pr x ∈ prs l := List.mem_map.mpr ⟨x, hx, rfl⟩
  have g1 : -1 < x.f0 := nrm_lb _ _ h1 _ hm
  have g2 : x.f0 < x.f1 := nrm_ne _ _ h1 _ hm
  exact ⟨by omega, g2, h2 x hx⟩
theorem sum_eq (l : List Sg) (hl : l.length ≤ 1000000) (k : Nat) (hk : 1000010 ≤ k) : week_Sum.f k l = some (if rightB l = true then (tot l, 0) else (0, 2)) := by
  unfold week_Sum.f
  rw [check_eq l hl k hk, Option.bind_some]
  cases c : rightB l with
  | false => rfl
  | true =>
    rw [if_pos rfl, if_pos rfl, if_pos rfl]
    have h64 := (right_nrm l c).2.2
    have h := sum_l0 l h64 (fun x hx => by obtain ⟨a, b, d⟩ := right_bounds l c x hx; exact ⟨a, by omega, d⟩) l.length k 0 0 (by omega) (by omega) (by omega) (by omega)
    rw [List.drop_zero, Int.zero_add] at h
    exact h
theorem tot_compl (l : List Sg) (hn : nrm (-1) (prs l)) (hb : ∀ x ∈ l, x.f1 ≤ 10080) (h : compl 0 l = []) : tot l = 10080 := by
  match l, hn, hb, h with
  | [], _, _, h => simp [compl] at h
  | [x], hn, hb, h =>
    have hx := hb x (by simp)
    have h1 : -1 < x.f0 := hn.1
    simp only [compl, List.append_eq_nil_iff] at h
    have c1 : ¬ 0 < x.f0 := fun c => by rw [if_pos c] at h; simp at h
    have c2 : ¬ x.f1 < 10080 := fun c => by have h2 := h.2; rw [if_pos c] at h2; simp at h2
    simp [tot]
    omega
  | x :: y :: l, hn, hb, h =>
    have h2 : x.f1 < y.f0 := hn.2.2.1
    simp only [compl, List.append_eq_nil_iff] at h
    have h3 := h.2.1
    rw [if_pos h2] at h3
    simp at h3
theorem nrm_pair : ∀ (l : List Rg) (a : Int), nrm a l → l.Pairwise (fun x y => x.2 < y.1)
  | [], _, _ => List.Pairwise.nil
  | x :: l, a, h => List.pairwise_cons.mpr ⟨fun y hy => nrm_lb l x.2 h.2.2 y hy, nrm_pair l x.2 h.2.2⟩
theorem ixf_spec (n : Int) : ∀ (l : List Sg) (i : Nat), (@Lib.idxByFrom Sg (fun _ y => week_Next.p n y) z45 l i = -1 ∧ ∀ x ∈ l, x.f1 ≤ n) ∨
    ∃ (j : Nat) (h : j < l.length), @Lib.idxByFrom Sg (fun _ y => week_Next.p n y) z45 l i = ((i + j : Nat) : Int) ∧ n < l[j].f1 ∧ ∀ (t : Nat) (ht : t < l.length), t < j → l[t].f1 ≤ n
  | [], i => .inl ⟨rfl, by simp⟩
  | x :: l, i => by
    unfold Lib.idxByFrom
    by_cases c : n < x.f1
    · have hp : week_Next.p n x = true := decide_eq_true c
      simp only [hp, if_true]
      exact .inr ⟨0, by simp, by simp, c, fun t _ ht => by omega⟩
    · have hp : week_Next.p n x = false := decide_eq_false c
      simp only [hp, Bool.false_eq_true, if_false]
      rcases ixf_spec n l (i + 1) with ⟨h1, h2⟩ | ⟨j, hj, h1, h2, h3⟩
      · refine .inl ⟨h1, fun y hy => ?_⟩
        rcases List.mem_cons.mp hy with rfl | hy
        · omega
        · exact h2 y hy
      · refine .inr ⟨j + 1, by simp; omega, by rw [h1]; omega, by simpa using h2, fun t ht htj => ?_⟩
        match t, ht, htj with
        | 0, _, _ => simp; omega
        | t + 1, ht, htj => simpa using h3 t (by simp at ht; omega) (by omega)
theorem ix_spec (n : Int) (l : List Sg) : (week_Next.ix n l = -1 ∧ ∀ x ∈ l, x.f1 ≤ n) ∨ ∃ (j : Nat) (h : j < l.length), week_Next.ix n l = (j : Int) ∧ n < l[j].f1 ∧ ∀ (t : Nat) (ht : t < l.length), t < j → l[t].f1 ≤ n := by
  have h := ixf_spec n l 0
  unfold week_Next.ix Lib.idxBy
  simpa using h
theorem had_false (l : List Rg) (m : Int) (h : ∀ x ∈ l, ¬ (x.1 ≤ m ∧ m < x.2)) : had l m = false := by
  cases hh : had l m with
  | false => rfl
  | true => obtain ⟨x, hx, h1, h2⟩ := (had_iff l m).mp hh; exact absurd ⟨h1, h2⟩ (h x hx)
theorem end_eq (L : List Sg) (a : Int) (ha : -1 ≤ a) (hn : nrm a (prs L)) (hb : ∀ x ∈ L, x.f1 ≤ 10080) (n : Int) (h0 : 0 ≤ n) (h1 : n < 10080) : (L = [] ∧ week_Next.end_ L n = some (0, 3)) ∨
    ∃ d : Int, 0 ≤ d ∧ d < 10080 ∧ had (prs L) ((n + d) % 10080) = true ∧ (∀ e, 0 ≤ e → e < d → had (prs L) ((n + e) % 10080) = false) ∧ week_Next.end_ L n = some (d, 0) := by
  unfold week_Next.end_
  by_cases c : L.length = 0
  · exact .inl ⟨List.eq_nil_of_length_eq_zero c, if_pos c⟩
  · rw [if_neg c]
    right
    have hp := nrm_pair _ _ hn
    have lb : ∀ x ∈ L, a < x.f0 := fun x hx => nrm_lb _ _ hn (pr x) (List.mem_map.mpr ⟨x, hx, rfl⟩)
    have ne : ∀ x ∈ L, x.f0 < x.f1 := fun x hx => nrm_ne _ _ hn (pr x) (List.mem_map.mpr ⟨x, hx, rfl⟩)
    have pair : ∀ (i j : Nat) (hi : i < L.length) (hj : j < L.length), i < j → L[i].f1 < L[j].f0 := by
      intro i j hi hj hij
      have := List.pairwise_iff_getElem.mp hp i j (by rw [prs_len]; exact hi) (by rw [prs_len]; exact hj) hij
      rw [prs_get _ _ _ hi, prs_get _ _ _ hj] at this
      exact this
    have mem : ∀ x ∈ prs L, ∃ (t : Nat) (ht : t < L.length), x = pr L[t] := by
      intro x hx
      obtain ⟨y, hy, rfl⟩ := List.mem_map.mp hx
      obtain ⟨t, ht, rfl⟩ := List.getElem_of_mem hy
      exact ⟨t, ht, rfl⟩
    have hL0 : 0 < L.length := by omega
    have b0 := hb L[0] (List.getElem_mem hL0)
    have l0 := lb L[0] (List.getElem_mem hL0)
    have n0 := ne L[0] (List.getElem_mem hL0)
    rcases ix_spec n L with ⟨e, hall⟩ | ⟨j, hj, e, hj1, hj2⟩
    · rw [e, if_pos (by decide)]
      have hr : rd_T45 L 0 = L[0] := rd_eq L 0 hL0
      have x0 := hall L[0] (List.getElem_mem hL0)
      have hw : wrap64 (wrap64 ((rd_T45 L 0).f0 + 10080) - n) = L[0].f0 + 10080 - n := by rw [hr]; unfold wrap64; omega
      rw [hw]
      refine ⟨L[0].f0 + 10080 - n, by omega, by omega, ?_, fun e' h2 h3 => ?_, rfl⟩
      · have hmod : ((n + (L[0].f0 + (10080 : Int) - n)) % (10080 : Int)) = L[0].f0 := by omega
        rw [hmod]
        exact (had_iff _ _).mpr ⟨pr L[0], List.mem_map.mpr ⟨_, List.getElem_mem hL0, rfl⟩, Int.le_refl _, n0⟩
      · refine had_false _ _ fun x hx => ?_
        obtain ⟨t, ht, rfl⟩ := mem x hx
        have ht1 := hall L[t] (List.getElem_mem ht)
        have ht2 : L[0].f0 ≤ L[t].f0 := by
          rcases Nat.eq_zero_or_pos t with rfl | htp
          · exact Int.le_refl _
          · have := pair 0 t hL0 ht htp; omega
        show ¬ (L[t].f0 ≤ _ ∧ _ < L[t].f1)
        omega
    · rw [e, if_neg (by omega), if_pos (by omega), rd_eq L j hj]
      have bj := hb L[j] (List.getElem_mem hj)
      have lj := lb L[j] (List.getElem_mem hj)
      have nj := ne L[j] (List.getElem_mem hj)
      have hw : wrap64 (L[j].f0 - n) = L[j].f0 - n := by unfold wrap64; omega
      rw [hw]
      unfold mx
      by_cases c2 : 0 < L[j].f0 - n
      · rw [if_pos c2]
        refine ⟨L[j].f0 - n, by omega, by omega, ?_, fun e' h2 h3 => ?_, rfl⟩
        · have hmod : ((n + (L[j].f0 - n)) % (10080 : Int)) = L[j].f0 := by omega
          rw [hmod]
          exact (had_iff _ _).mpr ⟨pr L[j], List.mem_map.mpr ⟨_, List.getElem_mem hj, rfl⟩, Int.le_refl _, nj⟩
        · refine had_false _ _ fun x hx => ?_
          obtain ⟨t, ht, rfl⟩ := mem x hx
          show ¬ (L[t].f0 ≤ _ ∧ _ < L[t].f1)
          rw [show (n + e') % 10080 = n + e' by omega]
          by_cases htj : t < j
          · have := hj2 t ht htj; omega
          · by_cases htj2 : t = j
            · subst htj2; omega
            · have := pair j t hj ht (by omega); omega
      · rw [if_neg c2]
        refine ⟨0, by omega, by omega, ?_, fun e' h2 h3 => by omega, rfl⟩
        rw [show (n + 0) % 10080 = n by omega]
        exact (had_iff _ _).mpr ⟨pr L[j], List.mem_map.mpr ⟨_, List.getElem_mem hj, rfl⟩, by show L[j].f0 ≤ n; omega, hj1⟩
def seek (l : List Sg) (b : Bool) : List Sg := if b = true then l else compl 0 l
theorem seek_had (l : List Sg) (h : rightB l = true) (b : Bool) (m : Int) (h0 : 0 ≤ m) (h1 : m < 10080) : had (prs (seek l b)) m = (had (prs l) m == b) := by
  obtain ⟨g1, g2, _⟩ := right_nrm l h
  unfold seek
  cases b with
  | true => rw [if_pos rfl]; simp
  | false =>
    rw [if_neg (by decide), compl_had l 0 g1 g2, decide_eq_true h0, decide_eq_true h1]
    simp
theorem next_eq (l : List Sg) (hl : l.length ≤ 1000000) (n : Int) (b : Bool) (k : Nat) (hk : 1000010 ≤ k) : (rightB l = false ∧ week_Next.f k l n b = some (0, 2)) ∨ (rightB l = true ∧ ¬ (0 ≤ n ∧ n < 10080) ∧ week_Next.f k l n b = some (0, 1)) ∨
    (rightB l = true ∧ 0 ≤ n ∧ n < 10080 ∧ seek l b = [] ∧ week_Next.f k l n b = some (0, 3)) ∨
    (rightB l = true ∧ 0 ≤ n ∧ n < 10080 ∧ ∃ d : Int, 0 ≤ d ∧ d < 10080 ∧ had (prs l) ((n + d) % 10080) = b ∧ (∀ e, 0 ≤ e → e < d → had (prs l) ((n + e) % 10080) = !b) ∧ week_Next.f k l n b = some (d, 0)) := by
  unfold week_Next.f
  rw [minute_eq l hl n k hk, Option.bind_some]
  cases c : rightB l with
  | false => exact .inl ⟨rfl, rfl⟩
  | true =>
    right
    rw [if_pos rfl]
    by_cases c1 : 0 ≤ n ∧ n < 10080
    · right
      rw [if_pos c1, if_pos rfl]
      obtain ⟨g1, g2, g3⟩ := right_nrm l c
      have he : (if b = true then week_Next.end_ l n else (week_not.f k l).bind fun l => week_Next.end_ l n) = week_Next.end_ (seek l b) n := by
        unfold seek
        cases b with
        | true => rfl
        | false =>
          rw [if_neg (by decide), if_neg (by decide), not_eq l (by omega) k (by omega), Option.bind_some]
      rw [he]
      have hsn : nrm (-1) (prs (seek l b)) ∧ ∀ x ∈ seek l b, x.f1 ≤ 10080 := by
        unfold seek
        cases b with
        | true => exact ⟨g1, g2⟩
        | false =>
          rw [if_neg (by decide)]
          have hc := compl_nrm l 0 (-1) (by omega) g1 g2
          refine ⟨hc, fun x hx => ?_⟩
          have := had_bound (prs (compl 0 l)) (-1) hc 10080 (fun m hm => by
            rw [compl_had l 0 g1 g2 m] at hm
            simp at hm
            omega) (pr x) (List.mem_map.mpr ⟨x, hx, rfl⟩)
          exact this
      rcases end_eq (seek l b) (-1) (by omega) hsn.1 hsn.2 n c1.1 c1.2 with ⟨h1, h2⟩ | ⟨d, d0, d1, h1, h2, h3⟩
      · exact .inl ⟨rfl, c1.1, c1.2, h1, h2⟩
      · refine .inr ⟨rfl, c1.1, c1.2, d, d0, d1, ?_, fun e e0 e1 => ?_, h3⟩
        · rw [seek_had l c b _ (by omega) (by omega)] at h1
          exact beq_iff_eq.mp h1
        · have := h2 e e0 e1
          rw [seek_had l c b _ (by omega) (by omega)] at this
          revert this
          cases had (prs l) ((n + e) % 10080) <;> cases b <;> simp
    · rw [if_neg c1]
      exact .inl ⟨rfl, c1, rfl⟩
end Go.Proofs.YtbimjpafgiogcaaDoor.XQ
set_option linter.unusedVariables false
set_option linter.unusedSimpArgs false
namespace Go.Proofs.YtbimjpafgiogcaaDoor.XQ
open Go.RowKit Go.Proofs.YtbimjpafgiogcaaDoorW.PrintWords Go.Proofs.YtbimjpafgiogcaaDoorW.PrintLast Go.Proofs.YtbimjpafgiogcaaDoorW.PrintMore Go.Proofs.YtbimjpafgiogcaaDoor.Wk
variable {Z : Zn}
def wk (u : Int) : Int := ((u + 345600) % 604800) / 60
theorem wk_bd (u : Int) : 0 ≤ wk u ∧ wk u < 10080 := by unfold wk; omega
theorem tmod_form (a b : Int) (hb : 0 < b) : Int.tmod a b = a % b ∨ (a < 0 ∧ a % b ≠ 0 ∧ Int.tmod a b = a % b - b) := by
  rw [Int.tmod_eq_emod]
  split
  · left; omega
  · rename_i h
    right
    refine ⟨by omega, fun e => h (.inr (Int.dvd_of_emod_eq_zero e)), ?_⟩
    have : (b.natAbs : Int) = b := by omega
    rw [this]
theorem is_f (u : Int) : civil_is.f u = some (isT u) := by
  unfold civil_is.f isT
  by_cases c : u ≥ -62135596800
  · rw [if_pos c, decide_eq_true (show -62135596800 ≤ u from c), Bool.true_and]
  · rw [if_neg c, decide_eq_false (show ¬ -62135596800 ≤ u from c), Bool.false_and]
theorem isT_iff (u : Int) : isT u = true ↔ isTm u := by
  unfold isT isTm
  rw [Bool.and_eq_true, decide_eq_true_iff, decide_eq_true_iff]
theorem week_f (u : Int) : civil_Week.f u = some (if isT u = true then (wk u, 0) else (0, 1)) := by
  unfold civil_Week.f
  rw [is_f, Option.bind_some]
  by_cases c : isT u = true
  · obtain ⟨h1, h2⟩ := (isT_iff u).1 c
    rw [if_pos c, if_pos c, w_in (n := u + 345600) (by omega) (by omega)]
    have hw := wk_bd u
    rcases tmod_form (u + 345600) 604800 (by omega) with e | ⟨e1, e2, e⟩
    · rw [e, if_neg (by omega), q_in (by omega), w_in (by omega) (by omega)]
      rfl
    · rw [e, if_pos (by omega), w_in (n := (u + 345600) % 604800 - 604800 + 604800) (by omega) (by omega), q_in (by omega), w_in (by omega) (by omega)]
      unfold wk
      rw [show (u + 345600) % 604800 - 604800 + 604800 = (u + 345600) % 604800 by omega]
  · rw [if_neg c, if_neg c]
def inq (l : List Sg) (u : Int) : Bool := isT u && had (prs l) (wk u)
def Qin (Z : Zn) (l : List Sg) (t : Int) (b : Bool) : Prop := ∃ o, Off Z t o ∧ b = inq l (t + 60 * o)
theorem ev_has (l : List Sg) (hl : rightB l = true) (hb : l.length ≤ 1000000) (m : Int) (hm : 0 ≤ m ∧ m < 10080) : Ev (fun k => week_Has.f k l m) (had (prs l) m, 0) :=
  ⟨1000010, fun k hk => by show week_Has.f k l m = _; rw [has_eq l hb m k hk, if_pos hl, if_pos hm]⟩
theorem at_f (h : Z.yes) (l : List Sg) {t : Int} (ht : isTm t) : ∃ o, Off Z t o ∧ -900 ≤ o ∧ o ≤ 1020 ∧ Ev (fun k => quiet_hours_at.f k Z.b Z.s Z.f1 Z.f2 Z.f3 Z.f4 Z.t1 Z.t2 Z.t3 Z.t4 l t) (if isT (t + 60 * o) = true then wk (t + 60 * o) else 0, isT (t + 60 * o)) := by
  obtain ⟨o, ho, h1, h2, h3⟩ := offset_f h ht
  refine ⟨o, h1, h2, h3, ?_⟩
  unfold quiet_hours_at.f
  refine Ev.bind ho (f := fun k bt => _) ?_
  simp only [w_in (n := 60 * o) (by omega) (by omega), w_in (n := t + 60 * o) (by have := ht.1; omega) (by have := ht.2; omega), week_f, Option.bind_some]
  by_cases c : isT (t + 60 * o) = true
  · simp only [if_pos c, c]
    exact Ev.now _
  · simp only [if_neg c]
    rw [Bool.not_eq_true] at c
    rw [c]
    exact Ev.now _
theorem in_q (h : Z.yes) {l : List Sg} (hl : rightB l = true) (hb : l.length ≤ 1000000) {t : Int} (ht : isTm t) : ∃ b, Ev (fun k => quiet_hours_in.f k Z.b Z.s Z.f1 Z.f2 Z.f3 Z.f4 Z.t1 Z.t2 Z.t3 Z.t4 l t) b ∧ Qin Z l t b := by
  obtain ⟨o, h1, h2, h3, h4⟩ := at_f h l ht
  refine ⟨inq l (t + 60 * o), ?_, o, h1, rfl⟩
  unfold quiet_hours_in.f
  refine Ev.bind h4 (f := fun k bt => _) ?_
  have hw := wk_bd (t + 60 * o)
  unfold inq
  cases c : isT (t + 60 * o) with
  | true =>
    simp only [if_true]
    refine Ev.bind (ev_has l hl hb _ hw) (f := fun k bt => _) ?_
    simp only [if_true, Bool.true_and]
    exact Ev.now _
  | false =>
    simp only [Bool.false_eq_true, if_false]
    refine Ev.bind (ev_has l hl hb 0 (by omega)) (f := fun k bt => _) ?_
    simp only [Bool.false_and]
    exact Ev.now _
theorem floor_f {t : Int} (ht : isTm t) : quiet_floor.f t = some (60 * (t / 60)) := by
  have h1 := ht.1
  have h2 := ht.2
  unfold quiet_floor.f
  rcases tmod_form t 60 (by omega) with e | ⟨e1, e2, e⟩
  · rw [e, if_neg (by omega), w_in (by omega) (by omega)]
    exact congrArg some (by omega)
  · rw [e, if_pos (by omega), w_in (n := t - (t % 60 - 60)) (by omega) (by omega), w_in (by omega) (by omega)]
    exact congrArg some (by omega)
theorem wk_on {t t' o j : Int} (hj : 0 ≤ j) (h1 : 60 * (t / 60) + 60 * j ≤ t') (h2 : t' < 60 * (t / 60) + 60 * (j + 1)) : wk (t' + 60 * o) = (wk (t + 60 * o) + j) % 10080 := by
  unfold wk
  omega
theorem step_f (h : Z.yes) {l : List Sg} (hl : rightB l = true) (hb : l.length ≤ 1000000) {t : Int} (ht : isTm t) (hq : Qin Z l t true) : ∃ s, Ev (fun k => quiet_hours_step.f k Z.b Z.s Z.f1 Z.f2 Z.f3 Z.f4 Z.t1 Z.t2 Z.t3 Z.t4 l t false) s ∧ t < s ∧ ∀ t' b, t ≤ t' → t' < s → t' ≤ 253402300799 → Qin Z l t' b → b = true := by
  obtain ⟨o, h1, h2, h3, h4⟩ := at_f h l ht
  obtain ⟨o', g1, g2⟩ := hq
  have eo := off_one h.1 h1 g1
  subst eo
  have g3 : isT (t + 60 * o') = true ∧ had (prs l) (wk (t + 60 * o')) = true := by
    unfold inq at g2
    rw [← Bool.and_eq_true]
    exact g2.symm
  have hw := wk_bd (t + 60 * o')
  have hloc := (isT_iff _).1 g3.1
  obtain ⟨n, w, hn, hn0, hn1, hnn⟩ : ∃ n w : Int, Ev (fun k => week_Next.f k l (wk (t + 60 * o')) false) (n, w) ∧ 0 ≤ n ∧ n < 10080 ∧ ∀ j, 0 ≤ j → j < max 1 n → had (prs l) ((wk (t + 60 * o') + j) % 10080) = true := by
    have hz : had (prs l) ((wk (t + 60 * o') + 0) % 10080) = true := by
      rw [show (wk (t + 60 * o') + 0) % 10080 = wk (t + 60 * o') by omega]
      exact g3.2
    have hcase := fun k hk => next_eq l hb (wk (t + 60 * o')) false k hk
    rcases hcase 1000010 (Nat.le_refl _) with ⟨a, _⟩ | ⟨_, a, _⟩ | ⟨_, _, _, a, e⟩ | ⟨_, _, _, d, d0, d1, e1, e2, e⟩
    · rw [hl] at a; cases a
    · exact absurd hw a
    · refine ⟨0, 3, ⟨1000010, fun k hk => ?_⟩, by omega, by omega, fun j hj0 hj1 => ?_⟩
      · rcases hcase k hk with ⟨a', _⟩ | ⟨_, a', _⟩ | ⟨_, _, _, _, e'⟩ | ⟨_, _, _, d', d0', d1', e1', _, _⟩
        · rw [hl] at a'; cases a'
        · exact absurd hw a'
        · exact e'
        · have := seek_had l hl false ((wk (t + 60 * o') + d') % 10080) (by omega) (by omega)
          rw [a, e1'] at this
          simp [had_nil, prs] at this
      · have : j = 0 := by omega
        subst this
        exact hz
    · refine ⟨d, 0, ⟨1000010, fun k hk => ?_⟩, d0, d1, fun j hj0 hj1 => ?_⟩
      · rcases hcase k hk with ⟨a', _⟩ | ⟨_, a', _⟩ | ⟨_, _, _, a', e'⟩ | ⟨_, _, _, d', d0', d1', e1', e2', e'⟩
        · rw [hl] at a'; cases a'
        · exact absurd hw a'
        · have := seek_had l hl false ((wk (t + 60 * o') + d) % 10080) (by omega) (by omega)
          rw [a', e1] at this
          simp [had_nil, prs] at this
        · have : d' = d := by
            rcases Int.lt_trichotomy d d' with c | c | c
            · have := e2' d d0 c; rw [e1] at this; cases this
            · exact c.symm
            · have := e2 d' d0' c; rw [e1'] at this; cases this
          show week_Next.f k l (wk (t + 60 * o')) false = _
          rw [e', this]
      · by_cases c : j < d
        · exact e2 j hj0 c
        · have : j = 0 := by omega
          subst this
          exact hz
  have key : ∀ s, s ≤ 60 * (t / 60) + 60 * max 1 n → (∀ u z, u ∈ tn Z z → t < u.f0 → s ≤ u.f0) → s ≤ 253402300800 - 60 * o' → ∀ t' b, t ≤ t' → t' < s → t' ≤ 253402300799 → Qin Z l t' b → b = true := by
    intro s k1 k2 k3 t' b q1 q2 q3 ⟨p, p1, p2⟩
    have e := off_const h.1 q1 g1 p1 (fun u z hu hlt => by have := k2 u z hu hlt; omega)
    subst e
    rw [p2]
    unfold inq
    have hT : isT (t' + 60 * p) = true := (isT_iff _).2 ⟨by have := hloc.1; omega, by omega⟩
    rw [hT, Bool.true_and]
    have hj := hnn ((t' - 60 * (t / 60)) / 60) (by omega) (by omega)
    rw [wk_on (t := t) (t' := t') (o := p) (j := (t' - 60 * (t / 60)) / 60) (by omega) (by omega) (by omega)]
    exact hj
  have hm : mx 1 n = max 1 n := mx_eq 1 n
  have hfl := floor_f ht
  have ht1 := ht.1
  have ht2 := ht.2
  have w1 : wrap64 (60 * max 1 n) = 60 * max 1 n := w_in (by omega) (by omega)
  have w2 : wrap64 (60 * (t / 60) + 60 * max 1 n) = 60 * (t / 60) + 60 * max 1 n := w_in (by omega) (by omega)
  have w3 : wrap64 (60 * o') = 60 * o' := w_in (by omega) (by omega)
  have w4 : wrap64 (253402300800 - 60 * o') = 253402300800 - 60 * o' := w_in (by omega) (by omega)
  have hend : 253402300800 - 60 * o' > t := by have := hloc.2; omega
  obtain ⟨ow, how, ow1, _⟩ := offset_f h ht
  have eow := off_one h.1 g1 ow1
  subst eow
  rcases next_f h ht with ⟨x, hx, x1, x2, x3⟩ | ⟨hx, x3⟩
  · refine ⟨mn (mn (60 * (t / 60) + 60 * max 1 n) x) (253402300800 - 60 * ow), ?_, ?_, ?_⟩
    · unfold quiet_hours_step.f
      refine Ev.bind h4 (f := fun k bt => _) ?_
      simp only [g3.1, if_true]
      refine Ev.bind hn (f := fun k bt => _) ?_
      simp only [hfl, Option.bind_some]
      refine Ev.bind hx (f := fun k bt => _) ?_
      simp only [if_true]
      refine Ev.bind how (f := fun k bt => _) ?_
      simp only [hm, w1, w2, w3, w4, if_pos hend]
      exact Ev.now _
    · unfold mn
      split <;> split <;> omega
    · have hs : mn (mn (60 * (t / 60) + 60 * max 1 n) x) (253402300800 - 60 * ow) ≤ 60 * (t / 60) + 60 * max 1 n ∧ mn (mn (60 * (t / 60) + 60 * max 1 n) x) (253402300800 - 60 * ow) ≤ x ∧ mn (mn (60 * (t / 60) + 60 * max 1 n) x) (253402300800 - 60 * ow) ≤ 253402300800 - 60 * ow := by
        unfold mn
        split <;> split <;> omega
      exact key _ hs.1 (fun u z hu hlt => by have := x3 u z hu hlt; omega) hs.2.2
  · refine ⟨mn (60 * (t / 60) + 60 * max 1 n) (253402300800 - 60 * ow), ?_, ?_, ?_⟩
    · unfold quiet_hours_step.f
      refine Ev.bind h4 (f := fun k bt => _) ?_
      simp only [g3.1, if_true]
      refine Ev.bind hn (f := fun k bt => _) ?_
      simp only [hfl, Option.bind_some]
      refine Ev.bind hx (f := fun k bt => _) ?_
      simp only [if_neg (show ¬ (3 : Int) = 0 by decide)]
      refine Ev.bind how (f := fun k bt => _) ?_
      simp only [hm, w1, w2, w3, w4, if_pos hend]
      exact Ev.now _
    · unfold mn
      split <;> omega
    · have hs : mn (60 * (t / 60) + 60 * max 1 n) (253402300800 - 60 * ow) ≤ 60 * (t / 60) + 60 * max 1 n ∧ mn (60 * (t / 60) + 60 * max 1 n) (253402300800 - 60 * ow) ≤ 253402300800 - 60 * ow := by
        unfold mn
        split <;> omega
      exact key _ hs.1 (fun u z hu hlt => by have := x3 u z hu; omega) hs.2
def FS (Z : Zn) (l : List Sg) (t : Int) (r : Int × Int) : Prop := (r.2 = 0 ∧ t ≤ r.1 ∧ r.1 ≤ 253402300799 ∧ Qin Z l r.1 false ∧ ∀ t' b, t ≤ t' → t' < r.1 → Qin Z l t' b → b = true) ∨ (r = (0, 3) ∧ ∀ t' b, t ≤ t' → t' ≤ 253402300799 → Qin Z l t' b → b = true)
theorem first_l0 (h : Z.yes) {l : List Sg} (hl : rightB l = true) (hb : l.length ≤ 1000000) : ∀ (n : Nat) (t : Int), -62135596800 ≤ t → (253402300800 - t).toNat ≤ n → ∃ r, Ev (fun k => quiet_hours_first.l0 k Z.b Z.s Z.f1 Z.f2 Z.f3 Z.f4 Z.t1 Z.t2 Z.t3 Z.t4 l t false) r ∧ FS Z l t r
  | n, t, h0, hn => by
    by_cases c : t > 253402300799
    · exact ⟨(0, 3), Ev.step (f := fun _ => some (0, 3)) (fun k => by rw [quiet_hours_first.l0, if_pos c]) (Ev.now _), .inr ⟨rfl, fun t' b h1 h2 => by omega⟩⟩
    · cases n with
      | zero => exact absurd hn (by omega)
      | succ n =>
        have ht : isTm t := ⟨h0, by omega⟩
        obtain ⟨b, hi, hq⟩ := in_q h hl hb ht
        cases b with
        | false =>
          refine ⟨(t, 0), ?_, .inl ⟨rfl, Int.le_refl _, by show t ≤ _; omega, hq, fun t' b h1 h2 => by simp only at h2; omega⟩⟩
          refine Ev.step (f := fun k => (quiet_hours_in.f k Z.b Z.s Z.f1 Z.f2 Z.f3 Z.f4 Z.t1 Z.t2 Z.t3 Z.t4 l t).bind fun b => if b = false then some (t, 0) else (quiet_hours_step.f k Z.b Z.s Z.f1 Z.f2 Z.f3 Z.f4 Z.t1 Z.t2 Z.t3 Z.t4 l t false).bind fun s => if t < s then quiet_hours_first.l0 k Z.b Z.s Z.f1 Z.f2 Z.f3 Z.f4 Z.t1 Z.t2 Z.t3 Z.t4 l s false else none) (fun k => by rw [quiet_hours_first.l0, if_neg c]) ?_
          refine Ev.bind hi (f := fun k bt => _) ?_
          simp only [if_true]
          exact Ev.now _
        | true =>
          obtain ⟨s, hs, s1, s2⟩ := step_f h hl hb ht hq
          obtain ⟨r, hr, hf⟩ := first_l0 h hl hb n s (by omega) (by omega)
          refine ⟨r, ?_, ?_⟩
          · refine Ev.step (f := fun k => (quiet_hours_in.f k Z.b Z.s Z.f1 Z.f2 Z.f3 Z.f4 Z.t1 Z.t2 Z.t3 Z.t4 l t).bind fun b => if b = false then some (t, 0) else (quiet_hours_step.f k Z.b Z.s Z.f1 Z.f2 Z.f3 Z.f4 Z.t1 Z.t2 Z.t3 Z.t4 l t false).bind fun s => if t < s then quiet_hours_first.l0 k Z.b Z.s Z.f1 Z.f2 Z.f3 Z.f4 Z.t1 Z.t2 Z.t3 Z.t4 l s false else none) (fun k => by rw [quiet_hours_first.l0, if_neg c]) ?_
            refine Ev.bind hi (f := fun k bt => _) ?_
            simp only [Bool.true_eq_false, if_false]
            refine Ev.bind hs (f := fun k bt => _) ?_
            simp only [if_pos s1]
            exact hr
          · rcases hf with ⟨f1, f2, f3, f4, f5⟩ | ⟨f1, f2⟩
            · refine .inl ⟨f1, by omega, f3, f4, fun t' b k1 k2 k3 => ?_⟩
              by_cases c2 : t' < s
              · exact s2 t' b k1 c2 (by omega) k3
              · exact f5 t' b (by omega) k2 k3
            · refine .inr ⟨f1, fun t' b k1 k2 k3 => ?_⟩
              by_cases c2 : t' < s
              · exact s2 t' b k1 c2 k2 k3
              · exact f2 t' b (by omega) k2 k3
theorem first_f (h : Z.yes) {l : List Sg} (hl : rightB l = true) (hb : l.length ≤ 1000000) {t : Int} (ht : isTm t) : ∃ r, Ev (fun k => quiet_hours_first.f k Z.b Z.s Z.f1 Z.f2 Z.f3 Z.f4 Z.t1 Z.t2 Z.t3 Z.t4 l t false) r ∧ ((tot l = 10080 ∧ r = (0, 3)) ∨ (tot l ≠ 10080 ∧ FS Z l t r)) := by
  have hsum : Ev (fun k => week_Sum.f k l) (tot l, 0) := ⟨1000010, fun k hk => by show week_Sum.f k l = _; rw [sum_eq l hb k hk, if_pos hl]⟩
  by_cases c : tot l = 10080
  · refine ⟨(0, 3), ?_, .inl ⟨c, rfl⟩⟩
    unfold quiet_hours_first.f
    refine Ev.bind hsum (f := fun k bt => _) ?_
    simp only [c, Bool.false_eq_true, false_and, false_or, true_and, if_true]
    exact Ev.now _
  · obtain ⟨r, hr, hf⟩ := first_l0 h hl hb _ t ht.1 (Nat.le_refl _)
    refine ⟨r, ?_, .inr ⟨c, hf⟩⟩
    unfold quiet_hours_first.f
    refine Ev.bind hsum (f := fun k bt => _) ?_
    simp only [c, Bool.false_eq_true, false_and, and_false, or_self, if_false]
    exact hr
theorem qopen_f (Z : Zn) (l : List Sg) (hb : l.length ≤ 1000000) (t : Int) : (Z.yes ∧ rightB l = true ∧ isTm t ∧ Ev (fun k => quiet_open.f k Z.b Z.s Z.f1 Z.f2 Z.f3 Z.f4 Z.t1 Z.t2 Z.t3 Z.t4 l t) (Z.b, Z.s, Z.f1, Z.f2, Z.f3, Z.f4, Z.t1, Z.t2, Z.t3, Z.t4, l, 0)) ∨ ∃ e, e ≠ 0 ∧ Ev (fun k => quiet_open.f k Z.b Z.s Z.f1 Z.f2 Z.f3 Z.f4 Z.t1 Z.t2 Z.t3 Z.t4 l t) (0, 0, 0, 0, 0, 0, 0, 0, 0, 0, [], e) := by
  obtain ⟨r, hr, hk⟩ := check_f Z
  have hw : Ev (fun k => week_Check.f k l) (if rightB l = true then 0 else 2) := ⟨1000010, fun k hk => check_eq l hb k hk⟩
  have hno : ∀ e, e ≠ 0 → Ev (fun k => quiet_Check.f k Z.b Z.s Z.f1 Z.f2 Z.f3 Z.f4 Z.t1 Z.t2 Z.t3 Z.t4 l) e → ∃ e, e ≠ 0 ∧ Ev (fun k => quiet_open.f k Z.b Z.s Z.f1 Z.f2 Z.f3 Z.f4 Z.t1 Z.t2 Z.t3 Z.t4 l t) (0, 0, 0, 0, 0, 0, 0, 0, 0, 0, [], e) := by
    intro e he hc
    refine ⟨e, he, ?_⟩
    unfold quiet_open.f
    refine Ev.bind hc (f := fun k bt => _) ?_
    simp only [if_neg he]
    exact Ev.now _
  by_cases c : r = 0
  · subst c
    by_cases cl : rightB l = true
    · have hq : Ev (fun k => quiet_Check.f k Z.b Z.s Z.f1 Z.f2 Z.f3 Z.f4 Z.t1 Z.t2 Z.t3 Z.t4 l) 0 := by
        unfold quiet_Check.f
        refine Ev.bind hr (f := fun k bt => _) ?_
        simp only [if_true]
        rw [if_pos cl] at hw
        refine Ev.bind hw (f := fun k bt => _) ?_
        simp only [if_true]
        exact Ev.now _
      by_cases ct : isTm t
      · refine .inl ⟨⟨hk rfl, hr⟩, cl, ct, ?_⟩
        unfold quiet_open.f
        refine Ev.bind hq (f := fun k bt => _) ?_
        simp only [if_true, if_neg (show ¬ (t < -62135596800 ∨ t > 253402300799) from by have h1 := ct.1; have h2 := ct.2; omega)]
        exact Ev.now _
      · refine .inr ⟨1, by decide, ?_⟩
        unfold quiet_open.f
        refine Ev.bind hq (f := fun k bt => _) ?_
        simp only [if_true, if_pos (show t < -62135596800 ∨ t > 253402300799 from by
          by_cases c1 : t < -62135596800
          · exact .inl c1
          · by_cases c2 : t > 253402300799
            · exact .inr c2
            · exact absurd ⟨by omega, by omega⟩ ct)]
        exact Ev.now _
    · refine .inr (hno 2 (by decide) ?_)
      unfold quiet_Check.f
      refine Ev.bind hr (f := fun k bt => _) ?_
      simp only [if_true]
      rw [if_neg cl] at hw
      refine Ev.bind hw (f := fun k bt => _) ?_
      simp only [if_neg (show ¬ (2 : Int) = 0 by decide)]
      exact Ev.now _
  · refine .inr (hno 2 (by decide) ?_)
    unfold quiet_Check.f
    refine Ev.bind hr (f := fun k bt => _) ?_
    simp only [if_neg c]
    exact Ev.now _
theorem In_f (Z : Zn) (l : List Sg) (hb : l.length ≤ 1000000) (t : Int) : (Z.yes ∧ rightB l = true ∧ isTm t ∧ ∃ b, Qin Z l t b ∧ Ev (fun k => quiet_In.f k Z.b Z.s Z.f1 Z.f2 Z.f3 Z.f4 Z.t1 Z.t2 Z.t3 Z.t4 l t) (b, 0)) ∨ ∃ e, e ≠ 0 ∧ Ev (fun k => quiet_In.f k Z.b Z.s Z.f1 Z.f2 Z.f3 Z.f4 Z.t1 Z.t2 Z.t3 Z.t4 l t) (false, e) := by
  rcases qopen_f Z l hb t with ⟨h1, h2, h3, h4⟩ | ⟨e, he, h4⟩
  · obtain ⟨b, hi, hq⟩ := in_q h1 h2 hb h3
    refine .inl ⟨h1, h2, h3, b, hq, ?_⟩
    unfold quiet_In.f
    refine Ev.bind h4 (f := fun k bt => _) ?_
    simp only [if_true]
    refine Ev.bind hi (f := fun k bt => _) (Ev.now _)
  · refine .inr ⟨e, he, ?_⟩
    unfold quiet_In.f
    refine Ev.bind h4 (f := fun k bt => _) ?_
    simp only [if_neg he]
    exact Ev.now _
theorem Free_f {Z : Zn} {l : List Sg} (hb : l.length ≤ 1000000) {t : Int} (hZ : Z.yes) (hl : rightB l = true) (ht : isTm t) : ∃ r, Ev (fun k => quiet_Free.f k Z.b Z.s Z.f1 Z.f2 Z.f3 Z.f4 Z.t1 Z.t2 Z.t3 Z.t4 l t) r ∧ ((tot l = 10080 ∧ r = (0, 3)) ∨ (tot l ≠ 10080 ∧ FS Z l t r)) := by
  rcases qopen_f Z l hb t with ⟨_, _, _, h4⟩ | ⟨e, he, h4⟩
  · obtain ⟨r, hr, hs⟩ := first_f hZ hl hb ht
    refine ⟨r, ?_, hs⟩
    unfold quiet_Free.f
    refine Ev.bind h4 (f := fun k bt => _) ?_
    simp only [if_true]
    refine Ev.bind hr (f := fun k bt => _) (Ev.now _)
  · exfalso
    have h5 : Ev (fun k => quiet_open.f k Z.b Z.s Z.f1 Z.f2 Z.f3 Z.f4 Z.t1 Z.t2 Z.t3 Z.t4 l t) (Z.b, Z.s, Z.f1, Z.f2, Z.f3, Z.f4, Z.t1, Z.t2, Z.t3, Z.t4, l, 0) := by
      unfold quiet_open.f quiet_Check.f
      have hw : Ev (fun k => week_Check.f k l) 0 := ⟨1000010, fun k hk => by show week_Check.f k l = _; rw [check_eq l hb k hk, if_pos hl]⟩
      refine Ev.bind (a := 0) ?_ (f := fun k bt => _) ?_
      · refine Ev.bind hZ.2 (f := fun k bt => _) ?_
        simp only [if_true]
        refine Ev.bind hw (f := fun k bt => _) ?_
        simp only [if_true]
        exact Ev.now _
      · simp only [if_true, if_neg (show ¬ (t < -62135596800 ∨ t > 253402300799) from by have h1 := ht.1; have h2 := ht.2; omega)]
        exact Ev.now _
    obtain ⟨K1, a⟩ := h4
    obtain ⟨K2, b⟩ := h5
    have := (a (K1 + K2) (by omega)).symm.trans (b (K1 + K2) (by omega))
    simp only [Option.some.injEq, Prod.mk.injEq] at this
    exact he this.2.2.2.2.2.2.2.2.2.2.2
theorem tot_app (a b : List Sg) : tot (a ++ b) = tot a + tot b := by
  unfold tot
  rw [List.map_append, List.sum_append]
theorem tot_split : ∀ (l : List Sg) (a : Int), nrm (a - 1) (prs l) → (∀ x ∈ l, x.f1 ≤ 10080) → a ≤ 10080 → tot (compl a l) + tot l = 10080 - a
  | [], a, _, _, ha => by
    unfold compl
    split
    · simp [tot]
    · simp [tot]; omega
  | x :: l, a, hn, hb, ha => by
    rw [prs_cons] at hn
    have hn' : a - 1 < (pr x).1 ∧ (pr x).1 < (pr x).2 ∧ nrm (pr x).2 (prs l) := hn
    have h2 := hb x (List.mem_cons_self ..)
    have ih := tot_split l x.f1 (nrm_down (by show (x.f1 : Int) - 1 ≤ (pr x).2; show x.f1 - 1 ≤ x.f1; omega) hn'.2.2) (fun y hy => hb y (List.mem_cons_of_mem _ hy)) h2
    have k1 : a - 1 < x.f0 := hn'.1
    rw [compl, tot_app, tot_cons]
    split
    · have e : tot [(⟨a, x.f0⟩ : Sg)] = x.f0 - a := by simp [tot]
      rw [e]
      omega
    · have e : tot ([] : List Sg) = 0 := rfl
      rw [e]
      omega
theorem tot_pos : ∀ (l : List Sg), (∀ y ∈ l, y.f0 < y.f1) → 0 ≤ tot l ∧ (l ≠ [] → 1 ≤ tot l)
  | [], _ => ⟨by simp [tot], fun h => absurd rfl h⟩
  | x :: l, h => by
    have h1 := h x (List.mem_cons_self ..)
    have h2 := (tot_pos l (fun y hy => h y (List.mem_cons_of_mem _ hy))).1
    rw [tot_cons]
    exact ⟨by omega, fun _ => by omega⟩
theorem full_iff (l : List Sg) (hl : rightB l = true) : tot l = 10080 ↔ ∀ m, 0 ≤ m → m < 10080 → had (prs l) m = true := by
  obtain ⟨g1, g2, _⟩ := right_nrm l hl
  have hs := tot_split l 0 g1 g2 (by omega)
  have hn := compl_nrm l 0 (-1) (by omega) g1 g2
  have hne : ∀ y ∈ compl 0 l, y.f0 < y.f1 := fun y hy => nrm_ne _ _ hn (pr y) (List.mem_map.mpr ⟨y, hy, rfl⟩)
  have hp := tot_pos (compl 0 l) hne
  constructor
  · intro h m h0 h1
    have hc : compl 0 l = [] := by
      by_cases c : compl 0 l = []
      · exact c
      · have := hp.2 c; omega
    have := compl_had l 0 g1 g2 m
    rw [hc, decide_eq_true h0, decide_eq_true h1] at this
    simp [had_nil, prs] at this
    exact this
  · intro h
    have hc : compl 0 l = [] := by
      cases e : compl 0 l with
      | nil => rfl
      | cons x r =>
        exfalso
        have hx : x ∈ compl 0 l := by rw [e]; exact List.mem_cons_self ..
        have h1 := hne x hx
        have h2 : had (prs (compl 0 l)) x.f0 = true := (had_iff _ _).2 ⟨pr x, List.mem_map.mpr ⟨x, hx, rfl⟩, Int.le_refl _, h1⟩
        rw [compl_had l 0 g1 g2] at h2
        simp at h2
        have := h x.f0 h2.1.1 h2.1.2
        rw [h2.2] at this
        cases this
    exact tot_compl l g1 g2 hc
end Go.Proofs.YtbimjpafgiogcaaDoor.XQ
set_option linter.unusedVariables false
set_option linter.unusedSimpArgs false
namespace Go.Proofs.YtbimjpafgiogcaaDoor.XQ
open Go.RowKit Go.Proofs.YtbimjpafgiogcaaDoorW.PrintWords Go.Proofs.YtbimjpafgiogcaaDoorW.PrintLast Go.Proofs.YtbimjpafgiogcaaDoorW.PrintMore Go.Proofs.YtbimjpafgiogcaaDoor.Wk
theorem checked_eq (a b : List Sg) (ha : a.length ≤ 1000000) (hb : b.length ≤ 1000000) (k : Nat) (hk : 1000020 ≤ k) : week_checked.f k [a, b] = some (if (rightB a && rightB b) = true then 0 else 2) := by
  obtain ⟨k, rfl⟩ : ∃ m, k = m + 3 := ⟨k - 3, by omega⟩
  unfold week_checked.f
  have r0 : rd_L6 [a, b] 0 = a := rfl
  have r1 : rd_L6 [a, b] 1 = b := rfl
  have w0 : wrap64 (0 + 1) = 1 := by unfold wrap64; omega
  have w1 : wrap64 (1 + 1) = 2 := by unfold wrap64; omega
  rw [week_checked.l0, if_pos (by simp), if_pos (by decide), if_pos (by simp), r0, check_eq a ha (k + 2) (by omega), Option.bind_some]
  cases ca : rightB a with
  | false => rfl
  | true =>
    rw [if_pos rfl, if_pos rfl, w0, week_checked.l0, if_pos (by simp), if_pos (by decide), if_pos (by simp), r1, check_eq b hb (k + 1) (by omega), Option.bind_some]
    cases cb : rightB b with
    | false => rfl
    | true => rw [if_pos rfl, if_pos rfl, w1, week_checked.l0, if_neg (by simp)]; rfl
theorem and_l0 : ∀ (n k : Nat) (x0 x1 out : List Sg) (a b : Int), x0.length + x1.length ≤ n → 2 * n + 1200 ≤ k → nrm a (prs x0) → nrm b (prs x1) → -1 ≤ a → -1 ≤ b → out.length + n ≤ 200 → (∀ y ∈ out, 0 ≤ y.f0 ∧ y.f0 ≤ y.f1) →
    ∃ J : List Rg, nrm (-1) J ∧ (∀ m, had J m = (had (prs out) m || (had (prs x0) m && had (prs x1) m))) ∧ week_And.l0 k x0 x1 out = some (jn J) := by
  intro n
  induction n with
  | zero =>
    intro k x0 x1 out a b hn hk h0 h1 ha hb ho hy
    obtain ⟨k, rfl⟩ : ∃ m, k = m + 2 := ⟨k - 2, by omega⟩
    obtain rfl : x0 = [] := List.eq_nil_of_length_eq_zero (by omega)
    obtain ⟨J, g1, g2, g3⟩ := join_eq out (by omega) hy k (by omega)
    refine ⟨J, g1, fun m => by rw [g2]; simp [had, prs], ?_⟩
    rw [week_And.l0, if_neg (by simp), week_And.j1, if_neg (by decide)]
    exact jn_bind _ _ g3
  | succ n ih =>
    intro k x0 x1 out a b hn hk h0 h1 ha hb ho hy
    obtain ⟨k, rfl⟩ : ∃ m, k = m + 2 := ⟨k - 2, by omega⟩
    obtain ⟨J, g1, g2, g3⟩ := join_eq out (by omega) hy k (by omega)
    match x0, x1, hn, h0, h1 with
    | [], x1, hn, h0, h1 =>
      refine ⟨J, g1, fun m => by rw [g2]; simp [had, prs], ?_⟩
      rw [week_And.l0, if_neg (by simp), week_And.j1, if_neg (by decide)]
      exact jn_bind _ _ g3
    | p :: xs, [], hn, h0, h1 =>
      refine ⟨J, g1, fun m => by rw [g2]; simp [had, prs], ?_⟩
      rw [week_And.l0, if_pos (by first | (simp; done) | (simp; omega)), decide_eq_false (by simp), week_And.j1, if_neg (by decide)]
      exact jn_bind _ _ g3
    | p :: xs, q :: ys, hn, h0, h1 =>
      clear g1 g2 g3 J
      obtain ⟨a1, a2, a3⟩ := h0
      obtain ⟨b1, b2, b3⟩ := h1
      have a1' : a < p.f0 := a1
      have a2' : p.f0 < p.f1 := a2
      have b1' : b < q.f0 := b1
      have b2' : q.f0 < q.f1 := b2
      have a3' : nrm p.f1 (prs xs) := a3
      have b3' : nrm q.f1 (prs ys) := b3
      rw [List.length_cons, List.length_cons] at hn
      have r0 : rd_T45 (p :: xs) 0 = p := rfl
      have r1 : rd_T45 (q :: ys) 0 = q := rfl
      have hm : mx p.f0 q.f0 = max p.f0 q.f0 := mx_eq _ _
      have key : ∀ out', (∀ y ∈ out', 0 ≤ y.f0 ∧ y.f0 ≤ y.f1) → out'.length ≤ out.length + 1 → (∀ m, had (prs out') m = (had (prs out) m || ((decide (p.f0 ≤ m) && decide (m < p.f1)) && (decide (q.f0 ≤ m) && decide (m < q.f1))))) →
          ∃ J : List Rg, nrm (-1) J ∧ (∀ m, had J m = (had (prs out) m || (had (prs (p :: xs)) m && had (prs (q :: ys)) m))) ∧
            (if p.f1 < q.f1 then (if 1 ≤ ((p :: xs).length : Int) then week_And.l0 k ((p :: xs).drop 1) (q :: ys) out' else none) else (if 1 ≤ ((q :: ys).length : Int) then week_And.l0 k (p :: xs) ((q :: ys).drop 1) out' else none)) = some (jn J) := by
        intro out' hy' hlen hhad
        by_cases c : p.f1 < q.f1
        · obtain ⟨J, g1, g2, g3⟩ := ih k xs (q :: ys) out' p.f1 b (by rw [List.length_cons]; omega) (by omega) a3' ⟨b1, b2, b3⟩ (by omega) hb (by omega) hy'
          refine ⟨J, g1, fun m => ?_, by rw [if_pos c, if_pos (by first | (simp; done) | (simp; omega))]; exact g3⟩
          have k1 : had (prs ys) m = true → q.f1 < m := had_lb _ _ b3' m
          rw [g2, hhad, prs_cons, prs_cons, had_cons, had_cons]
          show _ = (had (prs out) m || ((decide (p.f0 ≤ m) && decide (m < p.f1) || had (prs xs) m) && (decide (q.f0 ≤ m) && decide (m < q.f1) || had (prs ys) m)))
          show (had (prs out) m || (decide (p.f0 ≤ m) && decide (m < p.f1) && (decide (q.f0 ≤ m) && decide (m < q.f1))) || (had (prs xs) m && (decide (q.f0 ≤ m) && decide (m < q.f1) || had (prs ys) m))) = _
          cases hB : had (prs ys) m with
          | true =>
            have hq := k1 hB
            rw [decide_eq_false (show ¬ m < p.f1 by omega), decide_eq_false (show ¬ m < q.f1 by omega)]
            cases had (prs out) m <;> cases had (prs xs) m <;> simp
          | false =>
            cases had (prs out) m <;> cases had (prs xs) m <;> cases (decide (p.f0 ≤ m) && decide (m < p.f1)) <;> cases (decide (q.f0 ≤ m) && decide (m < q.f1)) <;> rfl
        · obtain ⟨J, g1, g2, g3⟩ := ih k (p :: xs) ys out' a q.f1 (by rw [List.length_cons]; omega) (by omega) ⟨a1, a2, a3⟩ b3' ha (by omega) (by omega) hy'
          refine ⟨J, g1, fun m => ?_, by rw [if_neg c, if_pos (by first | (simp; done) | (simp; omega))]; exact g3⟩
          have k1 : had (prs xs) m = true → p.f1 < m := had_lb _ _ a3' m
          rw [g2, hhad, prs_cons, prs_cons, had_cons, had_cons]
          show (had (prs out) m || (decide (p.f0 ≤ m) && decide (m < p.f1) && (decide (q.f0 ≤ m) && decide (m < q.f1))) || ((decide (p.f0 ≤ m) && decide (m < p.f1) || had (prs xs) m) && had (prs ys) m)) = (had (prs out) m || ((decide (p.f0 ≤ m) && decide (m < p.f1) || had (prs xs) m) && (decide (q.f0 ≤ m) && decide (m < q.f1) || had (prs ys) m)))
          cases hA : had (prs xs) m with
          | true =>
            have hq := k1 hA
            rw [decide_eq_false (show ¬ m < p.f1 by omega), decide_eq_false (show ¬ m < q.f1 by omega)]
            cases had (prs out) m <;> cases had (prs ys) m <;> simp
          | false =>
            cases had (prs out) m <;> cases had (prs ys) m <;> cases (decide (p.f0 ≤ m) && decide (m < p.f1)) <;> cases (decide (q.f0 ≤ m) && decide (m < q.f1)) <;> rfl
      rw [week_And.l0, if_pos (by first | (simp; done) | (simp; omega)), decide_eq_true (by first | (simp; done) | (simp; omega)), week_And.j1, if_pos rfl, if_pos (by first | (simp; done) | (simp; omega)), if_pos (by first | (simp; done) | (simp; omega)), r0, r1, hm]
      have hmn : mn p.f1 q.f1 = min p.f1 q.f1 := by
        unfold mn
        by_cases h : q.f1 < p.f1
        · rw [if_pos h, Int.min_eq_right (by omega)]
        · rw [if_neg h, Int.min_eq_left (by omega)]
      rw [hmn]
      have m1 : p.f0 ≤ max p.f0 q.f0 := Int.le_max_left _ _
      have m2 : q.f0 ≤ max p.f0 q.f0 := Int.le_max_right _ _
      have m3 : max p.f0 q.f0 = p.f0 ∨ max p.f0 q.f0 = q.f0 := by
        rcases Int.le_total p.f0 q.f0 with h | h
        · right; exact Int.max_eq_right h
        · left; exact Int.max_eq_left h
      have n1 : min p.f1 q.f1 ≤ p.f1 := Int.min_le_left _ _
      have n2 : min p.f1 q.f1 ≤ q.f1 := Int.min_le_right _ _
      have n3 : min p.f1 q.f1 = p.f1 ∨ min p.f1 q.f1 = q.f1 := by
        rcases Int.le_total p.f1 q.f1 with h | h
        · left; exact Int.min_eq_left h
        · right; exact Int.min_eq_right h
      generalize max p.f0 q.f0 = M at *
      generalize min p.f1 q.f1 = K at *
      by_cases c : M < K
      · rw [if_pos c, if_pos (by omega), Option.bind_some]
        exact key (out ++ [⟨M, K⟩]) (fun y hy' => by
          rcases List.mem_append.mp hy' with h | h
          · exact hy y h
          · rw [List.mem_singleton] at h
            subst h
            exact ⟨by show 0 ≤ M; omega, by show M ≤ K; omega⟩) (by rw [List.length_append]; simp) (fun m => by
          rw [prs_append, had_append]
          congr 1
          show had [(M, K)] m = _
          rw [had_one, Bool.eq_iff_iff]
          simp
          omega)
      · rw [if_neg c]
        exact key out hy (by omega) (fun m => by
          have : ((decide (p.f0 ≤ m) && decide (m < p.f1)) && (decide (q.f0 ≤ m) && decide (m < q.f1))) = false := by
            rw [Bool.eq_false_iff]
            simp
            omega
          rw [this, Bool.or_false])
theorem and_eq (a b : List Sg) (ha : a.length ≤ 1000000) (hb : b.length ≤ 1000000) (k : Nat) (hk : 1000020 ≤ k) : ((rightB a && rightB b) = false ∧ week_And.f k a b = some ([], 2)) ∨
    ((rightB a && rightB b) = true ∧ ∃ J : List Rg, nrm (-1) J ∧ (∀ m, had J m = (had (prs a) m && had (prs b) m)) ∧ week_And.f k a b = some (jn J)) := by
  unfold week_And.f
  rw [checked_eq a b ha hb k hk, Option.bind_some]
  cases c : (rightB a && rightB b) with
  | false => exact .inl ⟨rfl, rfl⟩
  | true =>
    rw [if_pos rfl, if_pos rfl]
    rw [Bool.and_eq_true] at c
    obtain ⟨a1, _, a3⟩ := right_nrm a c.1
    obtain ⟨b1, _, b3⟩ := right_nrm b c.2
    obtain ⟨J, g1, g2, g3⟩ := and_l0 (a.length + b.length) k a b [] (-1) (-1) (Nat.le_refl _) (by omega) a1 b1 (by omega) (by omega) (by first | (simp; done) | (simp; omega)) (by simp)
    exact .inr ⟨rfl, J, g1, fun m => by rw [g2]; simp [had, prs], g3⟩
theorem concat_eq (a b : List Sg) (ha : a.length ≤ 64) (hb : b.length ≤ 64) (k : Nat) (hk : 10 ≤ k) : api_Range_13.f k [a, b] = some (a ++ b) := by
  obtain ⟨k, rfl⟩ : ∃ m, k = m + 6 := ⟨k - 6, by omega⟩
  unfold api_Range_13.f
  have r0 : rd_L6 [a, b] 0 = a := rfl
  have r1 : rd_L6 [a, b] 1 = b := rfl
  have w0 : wrap64 (0 + 1) = 1 := by unfold wrap64; omega
  have w1 : wrap64 (1 + 1) = 2 := by unfold wrap64; omega
  have s0 : wrap64 (0 + (a.length : Int)) = (a.length : Int) := by unfold wrap64; omega
  have s1 : wrap64 ((a.length : Int) + (b.length : Int)) = (a.length : Int) + (b.length : Int) := by unfold wrap64; omega
  rw [api_Range_13.l0, if_pos (by simp), if_pos (by decide), if_pos (by simp), r0, s0, if_neg (by omega), w0,
    api_Range_13.l0, if_pos (by simp), if_pos (by decide), if_pos (by simp), r1, s1, if_neg (by omega), w1,
    api_Range_13.l0, if_neg (by simp)]
  unfold api_Range_23.f
  rw [if_pos ⟨by omega, by omega⟩, Option.bind_some,
    api_Range_13.l1, if_pos (by simp), if_pos (by decide), if_pos (by simp), r0, if_pos (by first | (simp; done) | (simp; omega)), w0,
    api_Range_13.l1, if_pos (by simp), if_pos (by decide), if_pos (by simp), r1, if_pos (by first | (simp; done) | (simp; omega)), w1,
    api_Range_13.l1, if_neg (by simp)]
  simp
theorem or_eq (a b : List Sg) (ha : a.length ≤ 1000000) (hb : b.length ≤ 1000000) (k : Nat) (hk : 1000020 ≤ k) : ((rightB a && rightB b) = false ∧ week_Or.f k a b = some ([], 2)) ∨
    ((rightB a && rightB b) = true ∧ ∃ J : List Rg, nrm (-1) J ∧ (∀ m, had J m = (had (prs a) m || had (prs b) m)) ∧ week_Or.f k a b = some (jn J)) := by
  unfold week_Or.f
  rw [checked_eq a b ha hb k hk, Option.bind_some]
  cases c : (rightB a && rightB b) with
  | false => exact .inl ⟨rfl, rfl⟩
  | true =>
    rw [if_pos rfl, if_pos rfl]
    rw [Bool.and_eq_true] at c
    obtain ⟨a1, _, a3⟩ := right_nrm a c.1
    obtain ⟨b1, _, b3⟩ := right_nrm b c.2
    rw [concat_eq a b a3 b3 k (by omega), Option.bind_some]
    obtain ⟨J, g1, g2, g3⟩ := join_eq (a ++ b) (by rw [List.length_append]; omega) (fun x hx => by
      rcases List.mem_append.mp hx with h | h
      · obtain ⟨u, v, _⟩ := right_bounds a c.1 x h; exact ⟨u, by omega⟩
      · obtain ⟨u, v, _⟩ := right_bounds b c.2 x h; exact ⟨u, by omega⟩) k (by omega)
    exact .inr ⟨rfl, J, g1, fun m => by rw [g2, prs_append, had_append], jn_bind _ _ g3⟩
end Go.Proofs.YtbimjpafgiogcaaDoor.XQ
set_option linter.unusedVariables false
set_option linter.unusedSimpArgs false
namespace Go.Proofs.YtbimjpafgiogcaaDoor.XQ
open Go.RowKit Go.Proofs.YtbimjpafgiogcaaDoorW.PrintWords Go.Proofs.YtbimjpafgiogcaaDoorW.PrintLast Go.Proofs.YtbimjpafgiogcaaDoorW.PrintMore Go.Proofs.YtbimjpafgiogcaaDoor.Wk
variable {Z : Zn}
set_option maxRecDepth 100000 in
theorem hushed_begins : bellmantop_begins.f = some true := by decide +kernel
theorem qopen_yes {l : List Sg} (hb : l.length ≤ 1000000) {t : Int} (hZ : Z.yes) (hl : rightB l = true) (ht : isTm t) : Ev (fun k => quiet_open.f k Z.b Z.s Z.f1 Z.f2 Z.f3 Z.f4 Z.t1 Z.t2 Z.t3 Z.t4 l t) (Z.b, Z.s, Z.f1, Z.f2, Z.f3, Z.f4, Z.t1, Z.t2, Z.t3, Z.t4, l, 0) := by
  unfold quiet_open.f quiet_Check.f
  have hw : Ev (fun k => week_Check.f k l) 0 := ⟨1000010, fun k hk => by show week_Check.f k l = _; rw [check_eq l hb k hk, if_pos hl]⟩
  refine Ev.bind (a := 0) ?_ (f := fun k bt => _) ?_
  · refine Ev.bind hZ.2 (f := fun k bt => _) ?_
    simp only [if_true]
    refine Ev.bind hw (f := fun k bt => _) ?_
    simp only [if_true]
    exact Ev.now _
  · simp only [if_true, if_neg (show ¬ (t < -62135596800 ∨ t > 253402300799) from by have h1 := ht.1; have h2 := ht.2; omega)]
    exact Ev.now _
theorem In_yes {l : List Sg} (hb : l.length ≤ 1000000) {t : Int} (hZ : Z.yes) (hl : rightB l = true) (ht : isTm t) : ∃ b, Qin Z l t b ∧ Ev (fun k => quiet_In.f k Z.b Z.s Z.f1 Z.f2 Z.f3 Z.f4 Z.t1 Z.t2 Z.t3 Z.t4 l t) (b, 0) := by
  obtain ⟨b, hi, hq⟩ := in_q hZ hl hb ht
  refine ⟨b, hq, ?_⟩
  unfold quiet_In.f
  refine Ev.bind (qopen_yes hb hZ hl ht) (f := fun k bt => _) ?_
  simp only [if_true]
  refine Ev.bind hi (f := fun k bt => _) (Ev.now _)
theorem or_ev (a b : List Sg) (ha : a.length ≤ 1000000) (hb : b.length ≤ 1000000) : ((rightB a && rightB b) = false ∧ Ev (fun k => week_Or.f k a b) ([], 2)) ∨ ((rightB a && rightB b) = true ∧ ∃ J : List Rg, nrm (-1) J ∧ (∀ m, had J m = (had (prs a) m || had (prs b) m)) ∧ Ev (fun k => week_Or.f k a b) (jn J)) := by
  rcases or_eq a b ha hb 1000020 (Nat.le_refl _) with ⟨h1, _⟩ | ⟨h1, J, j1, j2, _⟩
  · refine .inl ⟨h1, 1000020, fun k hk => ?_⟩
    rcases or_eq a b ha hb k hk with ⟨_, h2⟩ | ⟨h2, _⟩
    · exact h2
    · rw [h1] at h2; cases h2
  · refine .inr ⟨h1, J, j1, j2, 1000020, fun k hk => ?_⟩
    rcases or_eq a b ha hb k hk with ⟨h2, _⟩ | ⟨_, K, k1, k2, k3⟩
    · rw [h1] at h2; cases h2
    · have e : K = J := nrm_ext K J (-1) (-1) k1 j1 (fun m => by rw [k2, j2])
      rw [e] at k3
      exact k3
theorem and_ev (a b : List Sg) (ha : a.length ≤ 1000000) (hb : b.length ≤ 1000000) : ((rightB a && rightB b) = false ∧ Ev (fun k => week_And.f k a b) ([], 2)) ∨ ((rightB a && rightB b) = true ∧ ∃ J : List Rg, nrm (-1) J ∧ (∀ m, had J m = (had (prs a) m && had (prs b) m)) ∧ Ev (fun k => week_And.f k a b) (jn J)) := by
  rcases and_eq a b ha hb 1000020 (Nat.le_refl _) with ⟨h1, _⟩ | ⟨h1, J, j1, j2, _⟩
  · refine .inl ⟨h1, 1000020, fun k hk => ?_⟩
    rcases and_eq a b ha hb k hk with ⟨_, h2⟩ | ⟨h2, _⟩
    · exact h2
    · rw [h1] at h2; cases h2
  · refine .inr ⟨h1, J, j1, j2, 1000020, fun k hk => ?_⟩
    rcases and_eq a b ha hb k hk with ⟨h2, _⟩ | ⟨_, K, k1, k2, k3⟩
    · rw [h1] at h2; cases h2
    · have e : K = J := nrm_ext K J (-1) (-1) k1 j1 (fun m => by rw [k2, j2])
      rw [e] at k3
      exact k3
theorem in_ev (Z : Zn) (l : List Sg) (hb : l.length ≤ 1000000) (t : Int) : ∃ r, Ev (fun k => quiet_In.f k Z.b Z.s Z.f1 Z.f2 Z.f3 Z.f4 Z.t1 Z.t2 Z.t3 Z.t4 l t) r ∧ (r.2 = 0 → Z.yes ∧ rightB l = true ∧ isTm t ∧ Qin Z l t r.1) := by
  rcases In_f Z l hb t with ⟨h1, h2, h3, b, h4, h5⟩ | ⟨e, he, h5⟩
  · exact ⟨_, h5, fun _ => ⟨h1, h2, h3, h4⟩⟩
  · exact ⟨_, h5, fun h => absurd h he⟩
theorem j0_out (x3 : Int) (x11 x13 : List Sg) (x15 x17 : Bool) (z0 z1 z2 z3 z4 z5 z6 z7 z8 z9 y0 y1 y2 y3 y4 y5 y6 y7 y8 y9 : Int) (l : List Sg) : Ev (fun k => bellmantop_TopHushed.j0 k x3 x11 x13 x15 x17 true z0 z1 z2 z3 z4 z5 z6 z7 z8 z9 y0 y1 y2 y3 y4 y5 y6 y7 y8 y9 l) true :=
  Ev.step (f := fun _ => some true) (fun k => by rw [bellmantop_TopHushed.j0, if_pos rfl]) (Ev.now _)
theorem wk_lt {l : List Sg} (h : rightB l = true) {m : Int} (hm : had (prs l) m = true) : m < 10080 := by
  obtain ⟨_, g2, _⟩ := right_nrm l h
  obtain ⟨x, hx, _, h2⟩ := (had_iff _ _).1 hm
  obtain ⟨y, hy, rfl⟩ := List.mem_map.mp hx
  have := g2 y hy
  have h3 : m < y.f1 := h2
  omega
theorem hushed (Z : Zn) (l1 l2 : List Sg) (h1 : l1.length ≤ 1000000) (h2 : l2.length ≤ 1000000) (t : Int) : Ev (fun k => bellmantop_TopHushed.f k Z.b Z.s Z.f1 Z.f2 Z.f3 Z.f4 Z.t1 Z.t2 Z.t3 Z.t4 l1 l2 t) true := by
  unfold bellmantop_TopHushed.f
  rw [hushed_begins]
  simp only [Option.bind_some, if_true]
  obtain ⟨⟨p, pe⟩, hp, kp⟩ := in_ev Z l1 h1 t
  obtain ⟨⟨q, qe⟩, hq, kq⟩ := in_ev Z l2 h2 t
  simp only at kp kq
  rcases or_ev l1 l2 h1 h2 with ⟨c, ho⟩ | ⟨c, J, j1, j2, ho⟩
  · rcases and_ev l1 l2 h1 h2 with ⟨_, hn⟩ | ⟨c2, _⟩
    · refine Ev.bind ho (f := fun k bt => _) ?_
      refine Ev.bind hn (f := fun k bt => _) ?_
      refine Ev.bind hp (f := fun k bt => _) ?_
      refine Ev.bind hq (f := fun k bt => _) ?_
      simp only [if_neg (show ¬ (2 : Int) = 0 by decide)]
      exact j0_out _ _ _ _ _ _ _ _ _ _ _ _ _ _ _ _ _ _ _ _ _ _ _ _ _ _
    · rw [c] at c2; cases c2
  · rcases and_ev l1 l2 h1 h2 with ⟨c2, _⟩ | ⟨_, K, k1, k2, hn⟩
    · rw [c] at c2; cases c2
    refine Ev.bind ho (f := fun k bt => _) ?_
    refine Ev.bind hn (f := fun k bt => _) ?_
    refine Ev.bind hp (f := fun k bt => _) ?_
    refine Ev.bind hq (f := fun k bt => _) ?_
    unfold jn
    by_cases cJ : J.length ≤ 64
    rotate_left
    · simp only [if_neg cJ, if_neg (show ¬ (12 : Int) = 0 by decide)]
      exact j0_out _ _ _ _ _ _ _ _ _ _ _ _ _ _ _ _ _ _ _ _ _ _ _ _ _ _
    by_cases cK : K.length ≤ 64
    rotate_left
    · simp only [if_pos cJ, if_neg cK, if_true, if_neg (show ¬ (12 : Int) = 0 by decide)]
      exact j0_out _ _ _ _ _ _ _ _ _ _ _ _ _ _ _ _ _ _ _ _ _ _ _ _ _ _
    simp only [if_pos cJ, if_pos cK, if_true]
    by_cases cp : pe = 0
    rotate_left
    · simp only [if_neg cp]
      exact j0_out _ _ _ _ _ _ _ _ _ _ _ _ _ _ _ _ _ _ _ _ _ _ _ _ _ _
    simp only [if_pos cp]
    by_cases cq : qe = 0
    rotate_left
    · rw [show (qe != 0) = true from bne_iff_ne.mpr cq]
      exact j0_out _ _ _ _ _ _ _ _ _ _ _ _ _ _ _ _ _ _ _ _ _ _ _ _ _ _
    rw [show (qe != 0) = false from bne_eq_false_iff_eq.mpr cq]
    obtain ⟨hZ, r1, ht, qp⟩ := kp cp
    obtain ⟨_, r2, _, qq⟩ := kq cq
    have ro : rightB (J.map mk) = true := jn_right J j1 (fun m hm => by
      rw [j2, Bool.or_eq_true] at hm
      rcases hm with hm | hm
      · exact wk_lt r1 hm
      · exact wk_lt r2 hm) cJ
    have rn : rightB (K.map mk) = true := jn_right K k1 (fun m hm => by
      rw [k2, Bool.and_eq_true] at hm
      exact wk_lt r1 hm.1) cK
    have lo : (J.map mk).length ≤ 1000000 := by rw [List.length_map]; omega
    have ln : (K.map mk).length ≤ 1000000 := by rw [List.length_map]; omega
    obtain ⟨r, qr, hr⟩ := In_yes lo hZ ro ht
    obtain ⟨s, qs, hs⟩ := In_yes ln hZ rn ht
    obtain ⟨f, hf, sf⟩ := Free_f h1 hZ r1 ht
    obtain ⟨g, hg, sg⟩ := Free_f lo hZ ro ht
    have er : r = (p || q) := by
      obtain ⟨o1, a1, b1⟩ := qp
      obtain ⟨o2, a2, b2⟩ := qq
      obtain ⟨o3, a3, b3⟩ := qr
      have e2 := off_one hZ.1 a1 a2
      have e3 := off_one hZ.1 a1 a3
      subst e2; subst e3
      rw [b1, b2, b3]
      unfold inq
      rw [prs_mk, j2]
      cases isT (t + 60 * o3) <;> simp
    have es : s = (p && q) := by
      obtain ⟨o1, a1, b1⟩ := qp
      obtain ⟨o2, a2, b2⟩ := qq
      obtain ⟨o3, a3, b3⟩ := qs
      have e2 := off_one hZ.1 a1 a2
      have e3 := off_one hZ.1 a1 a3
      subst e2; subst e3
      rw [b1, b2, b3]
      unfold inq
      rw [prs_mk, k2]
      cases isT (t + 60 * o3) <;> simp
    have hfg : g.2 = 0 → f.2 = 0 ∧ f.1 ≤ g.1 := by
      intro h0
      rcases sg with ⟨_, e⟩ | ⟨nt, sg⟩
      · rw [e] at h0; cases h0
      rcases sg with ⟨_, g1, g2, g3, _⟩ | ⟨e, _⟩
      rotate_left
      · rw [e] at h0; cases h0
      obtain ⟨b1, _, qb⟩ := in_q hZ r1 h1 (t := g.1) ⟨by have := ht.1; omega, g2⟩
      have eb : b1 = false := by
        obtain ⟨o1, x1, y1⟩ := qb
        obtain ⟨o3, x3, y3⟩ := g3
        have e3 := off_one hZ.1 x1 x3
        subst e3
        unfold inq at y1 y3
        rw [prs_mk, j2] at y3
        rw [y1]
        cases e4 : isT (g.1 + 60 * o3) with
        | false => rfl
        | true =>
          rw [e4] at y3
          simp only [Bool.true_and] at y3 ⊢
          cases e5 : had (prs l1) (wk (g.1 + 60 * o3)) with
          | false => rfl
          | true => rw [e5] at y3; simp at y3
      subst eb
      rcases sf with ⟨tf, _⟩ | ⟨_, sf⟩
      · exfalso
        apply nt
        rw [full_iff _ ro]
        intro m m0 m1
        rw [prs_mk, j2, (full_iff _ r1).1 tf m m0 m1]
        rfl
      · rcases sf with ⟨f0, f1, f2, f3, f4⟩ | ⟨_, f4⟩
        · refine ⟨f0, ?_⟩
          by_cases c : g.1 < f.1
          · have := f4 g.1 false g1 c qb
            cases this
          · omega
        · have := f4 g.1 false g1 g2 qb
          cases this
    refine Ev.step (f := fun k => (quiet_In.f k Z.b Z.s Z.f1 Z.f2 Z.f3 Z.f4 Z.t1 Z.t2 Z.t3 Z.t4 (J.map mk) t).bind fun a => (quiet_In.f k Z.b Z.s Z.f1 Z.f2 Z.f3 Z.f4 Z.t1 Z.t2 Z.t3 Z.t4 (K.map mk) t).bind fun b => (quiet_Free.f k Z.b Z.s Z.f1 Z.f2 Z.f3 Z.f4 Z.t1 Z.t2 Z.t3 Z.t4 l1 t).bind fun c => (quiet_Free.f k Z.b Z.s Z.f1 Z.f2 Z.f3 Z.f4 Z.t1 Z.t2 Z.t3 Z.t4 (J.map mk) t).bind fun d => if a.2 = 0 then (if b.2 = 0 then (if p = true then (if (a.1 == true) = true then (if (b.1 == q) = true then (if d.2 = 0 then (if c.2 = 0 then (some (decide (d.1 ≥ c.1))) else (some false)) else (some true)) else (some false)) else (some false)) else (if (a.1 == q) = true then (if (b.1 == false) = true then (if d.2 = 0 then (if c.2 = 0 then (some (decide (d.1 ≥ c.1))) else (some false)) else (some true)) else (some false)) else (some false))) else (some false)) else (some false)) (fun k => by rw [bellmantop_TopHushed.j0, if_neg (by decide)]) ?_
    refine Ev.bind hr (f := fun k bt => _) ?_
    refine Ev.bind hs (f := fun k bt => _) ?_
    refine Ev.bind hf (f := fun k bt => _) ?_
    refine Ev.bind hg (f := fun k bt => _) ?_
    rw [er, es]
    obtain ⟨g1, g2⟩ := g
    obtain ⟨f1, f2⟩ := f
    simp only at hfg ⊢
    by_cases cg : g2 = 0
    · obtain ⟨k1, k2⟩ := hfg cg
      have k3 : decide (g1 ≥ f1) = true := decide_eq_true k2
      cases p <;> cases q <;> simp only [cg, k1, k3, if_true, Bool.or_self, Bool.and_self, Bool.or_false, Bool.or_true, Bool.and_false, Bool.and_true, Bool.false_or, Bool.true_or, Bool.false_and, Bool.true_and, beq_self_eq_true, Bool.false_eq_true, if_false] <;> exact Ev.now _
    · cases p <;> cases q <;> simp only [if_neg cg, if_true, Bool.or_self, Bool.and_self, Bool.or_false, Bool.or_true, Bool.and_false, Bool.and_true, Bool.false_or, Bool.true_or, Bool.false_and, Bool.true_and, beq_self_eq_true, Bool.false_eq_true, if_false] <;> exact Ev.now _
theorem pure_TopHushed : bellmantop_TopHushed.PureU := by
  intro a l1 l2 t _ _ _ _ hb
  have e1 : ∀ l : List Sg, (l.map (fun _ => ((1 + 1) + 1))).sum = 3 * l.length := by
    intro l
    induction l with
    | nil => rfl
    | cons x l ih => rw [List.map_cons, List.sum_cons, ih, List.length_cons]; omega
  rw [e1, e1] at hb
  exact (hushed ⟨a.f0, a.f1, a.f2.f0, a.f2.f1, a.f2.f2, a.f2.f3, a.f3.f0, a.f3.f1, a.f3.f2, a.f3.f3⟩ l1 l2 (by omega) (by omega) t).rounds
end Go.Proofs.YtbimjpafgiogcaaDoor.XQ
namespace Go.Proofs.YtbimjpafgiogcaaDoor.Pure
theorem TopHushed : XQ.bellmantop_TopHushed.PureU := XQ.pure_TopHushed
end Go.Proofs.YtbimjpafgiogcaaDoor.Pure
set_option linter.unusedVariables false
set_option linter.unusedSimpArgs false
namespace Go.Proofs.YtbimjpafgiogcaaDoor.Dec
open Go.RowKit Go.Proofs.YtbimjpafgiogcaaDoorW.PrintWords Go.ChangeShapes Go.WideShapes Go.Deep
section
variable {H : Type}
theorem bulk_one (d : DataW H) : 1 ≤ Rows.uptoBulk d := by
  cases d with
  | lit l => cases l <;> simp [Rows.uptoBulk]
  | nil => simp [Rows.uptoBulk]
  | ptr d => simp [Rows.uptoBulk]
  | slice elems spare => simp [Rows.uptoBulk]
  | agg parts => simp [Rows.uptoBulk]
  | iface t d => simp [Rows.uptoBulk]
  | map entries => simp [Rows.uptoBulk]
  | held h => simp [Rows.uptoBulk]
variable {enc : TypeId × Value → H} {P : Program} {w : World} {base : Nat} {spare : Nat → Bool} {held : Bool}
def D {α : Type} (enc : TypeId × Value → H) (P : Program) (w : World) (base : Nat) (spare : Nat → Bool) (held : Bool) (t : TypeId) (kd : Kd α) (wf : α → Prop) (bk : α → Nat) : Prop :=
  ∀ (fuel : Nat) (cs : List Value) (x : DataW H × List MemPlace), DataW.trod enc P w base spare held fuel t cs = some x → ∃ a, kd.K w a cs ∧ wf a ∧ bk a ≤ Rows.uptoBulk x.1
theorem D_int {t : TypeId} {k : IntKind} (ht : P.underlying t = some (.int k)) : D enc P w base spare held t (Kd.int k) (fun n => (Lit.int k n).wf = true) (fun _ => 1) := by
  intro fuel cs x h
  obtain ⟨n, hc, hx, hw⟩ := DataW.trod_int ht h
  exact ⟨n, hc, hw, bulk_one _⟩
theorem list_of {α : Type} {p : Nat → α → Prop} : ∀ (n : Nat), (∀ i, i < n → ∃ a, p i a) → ∃ l : List α, l.length = n ∧ ∀ i a, l[i]? = some a → p i a
  | 0, _ => ⟨[], rfl, fun i a h => by simp at h⟩
  | n + 1, h => by
    obtain ⟨l, hl, hp⟩ := list_of n (fun i hi => h i (by omega))
    obtain ⟨a, ha⟩ := h n (by omega)
    refine ⟨l ++ [a], by simp [hl], fun i b hb => ?_⟩
    rw [List.getElem?_append] at hb
    split at hb
    · exact hp i b hb
    · have hi : i - l.length = 0 := by
        rcases Nat.eq_zero_or_pos (i - l.length) with h0 | h0
        · exact h0
        · rw [List.getElem?_eq_none (by simp; omega)] at hb; cases hb
      rw [hi] at hb
      injection hb with hb
      subst hb
      have : i = n := by omega
      subst this; exact ha
theorem bulk_sum {α : Type} {bk : α → Nat} : ∀ (l : List α) (Dx : Nat → DataW H), (∀ i a, l[i]? = some a → bk a ≤ Rows.uptoBulk (Dx i)) → (l.map bk).sum ≤ Rows.uptoBulkAll ((List.range l.length).map Dx)
  | [], _, _ => by simp
  | a :: l, Dx, h => by
    have h0 := h 0 a rfl
    have h1 := bulk_sum l (fun i => Dx (i + 1)) (fun i b hb => h (i + 1) b (by simpa using hb))
    rw [List.length_cons, List.range_succ_eq_map]
    simp only [List.map_cons, List.sum_cons, Rows.uptoBulkAll, List.map_map]
    have e : (List.map (fun i => Dx (i + 1)) (List.range l.length)) = List.map (Dx ∘ Nat.succ) (List.range l.length) := rfl
    rw [e] at h1
    omega
theorem D_slice {α : Type} {kd : Kd α} {wf : α → Prop} {bk : α → Nat} {t e : TypeId} (ht : P.underlying t = some (.slice e)) (hc : P.cellsOf e = kd.sz) (h : D enc P w base spare held e kd wf bk) :
    D enc P w base spare held t (Kd.slice e kd) (fun l => ∀ a ∈ l, wf a) (fun l => (l.map bk).sum + 1) := by
  intro fuel cs x hx
  rcases open_slice ht hx with ⟨rfl, rfl⟩ | ⟨a, len, cap, m, n, Dx, Pl, rfl, hb, hl, hm, hmm, rfl, he⟩
  · refine ⟨([] : List α), ⟨none, 0, rfl, Nat.le_refl _, rfl, Nat.zero_le _, fun h0 => absurd h0 (Nat.lt_irrefl 0)⟩, ⟨?_, ?_⟩⟩
    · intro a ha
      exact absurd ha (by simp)
    · simp [Rows.uptoBulk]
  · have hlm : len ≤ m := by rw [hmm]; split <;> omega
    obtain ⟨l, hll, hp⟩ := list_of (p := fun i y => wf y ∧ bk y ≤ Rows.uptoBulk (Dx i) ∧ ∃ c, c.length = kd.sz ∧ kd.K w y c ∧ ∀ j u, c[j]? = some u → w.cell? (a.add (i * kd.sz + j)) = some u) len (fun i hi => by
      obtain ⟨cs', h1, h2⟩ := he i (by omega)
      obtain ⟨y, hk, hw, hbk⟩ := h n cs' _ h2
      obtain ⟨_, hlen, hcell⟩ := World.cells?_some h1
      refine ⟨y, hw, hbk, cs', by rw [hlen, hc], hk, fun j u hu => ?_⟩
      have hj : j < cs'.length := (List.getElem?_eq_some_iff.1 hu).1
      have h3 := hcell j (by omega)
      rw [Go.Deep.add_add] at h3
      rw [← hc, h3, hu])
    have hmax : maxLen ≤ 9223372036854775807 := by decide
    refine ⟨l, ⟨some a, cap, by rw [hll], by omega, rfl, by omega, fun h0 => ⟨a, rfl, fun j p hj => ?_⟩⟩, fun y hy => ?_, ?_⟩
    · obtain ⟨_, _, c, hcl, hk, hcell⟩ := hp j p hj
      exact ⟨c, hcl, hk, hcell⟩
    · obtain ⟨i, hi, rfl⟩ := List.getElem_of_mem hy
      exact (hp i _ (List.getElem?_eq_getElem hi)).1
    · have hs := bulk_sum l Dx (fun i y hy => (hp i y hy).2.1)
      rw [hll] at hs
      simp only [Rows.uptoBulk]
      omega
end
section
variable {H : Type} {enc : TypeId × Value → H} {P : Program} {w : World} {base : Nat} {spare : Nat → Bool} {held : Bool}
def Fs {α : Type} (enc : TypeId × Value → H) (P : Program) (w : World) (base : Nat) (spare : Nat → Bool) (held : Bool) (fs : List Field) (o : Nat) (kd : Kd α) (wf : α → Prop) (bk : α → Nat) : Prop :=
  ∀ (fuel : Nat) (cs : List Value) (xs : List (DataW H × List MemPlace)), xs.length = fs.length → cs.length = kd.sz →
    (∀ (i : Nat) (f : Field), fs[i]? = some f → DataW.trod enc P w base spare held fuel f.type ((cs.drop (f.offset - o)).take (P.cellsOf f.type)) = xs[i]?) → ∃ a, kd.K w a cs ∧ wf a ∧ bk a ≤ Rows.uptoBulkAll (xs.map (·.1))
theorem Fs_one {α : Type} {kd : Kd α} {wf : α → Prop} {bk : α → Nat} {f : Field} {o : Nat} (h : D enc P w base spare held f.type kd wf bk) (ho : f.offset = o) (hc : P.cellsOf f.type = kd.sz) : Fs enc P w base spare held [f] o kd wf bk := by
  intro fuel cs xs hx hl hf
  match xs, hx with
  | [x], _ =>
    have h0 := hf 0 f rfl
    rw [ho, Nat.sub_self, List.drop_zero, hc, ← hl, List.take_length] at h0
    obtain ⟨a, hk, hw, hb⟩ := h fuel cs x h0
    exact ⟨a, hk, hw, by simpa [Rows.uptoBulkAll] using hb⟩
theorem Fs_cons {α β : Type} {d1 : Kd α} {d2 : Kd β} {wf1 : α → Prop} {wf2 : β → Prop} {bk1 : α → Nat} {bk2 : β → Nat} {f : Field} {fs : List Field} {o : Nat} (h1 : D enc P w base spare held f.type d1 wf1 bk1) (ho : f.offset = o) (hc : P.cellsOf f.type = d1.sz)
    (hge : ∀ g ∈ fs, o + d1.sz ≤ g.offset) (h2 : Fs enc P w base spare held fs (o + d1.sz) d2 wf2 bk2) :
    Fs enc P w base spare held (f :: fs) o (Kd.pair d1 d2) (fun p => wf1 p.1 ∧ wf2 p.2) (fun p => bk1 p.1 + bk2 p.2) := by
  intro fuel cs xs hx hl hf
  have hl2 : cs.length = d1.sz + d2.sz := hl
  match xs, hx with
  | x :: xs, hx =>
    have h0 := hf 0 f rfl
    rw [ho, Nat.sub_self, List.drop_zero, hc] at h0
    obtain ⟨a, hk, hw, hb⟩ := h1 fuel _ x h0
    obtain ⟨b, hk2, hw2, hb2⟩ := h2 fuel (cs.drop d1.sz) xs (by simpa using hx) (by rw [List.length_drop]; omega) (fun i g hg => by
      have h3 := hf (i + 1) g hg
      have hgo := hge g (List.mem_of_getElem? hg)
      rw [List.drop_drop, show d1.sz + (g.offset - (o + d1.sz)) = g.offset - o by omega]
      exact h3)
    refine ⟨(a, b), ⟨cs.take d1.sz, cs.drop d1.sz, (List.take_append_drop _ _).symm, hk, hk2⟩, ⟨hw, hw2⟩, ?_⟩
    simp only [List.map_cons, Rows.uptoBulkAll]
    omega
theorem D_struct {α : Type} {kd : Kd α} {wf : α → Prop} {bk : α → Nat} {t : TypeId} {fs : Array Field} (ht : P.underlying t = some (.struct fs)) (hc : P.cellsOf t = kd.sz) (h : Fs enc P w base spare held fs.toList 0 kd wf bk) : D enc P w base spare held t kd wf (fun a => bk a + 1) := by
  intro fuel cs x hx
  obtain ⟨xs, n, _, hxe, hcl, hxl, hf⟩ := DataW.trod_struct ht hx
  obtain ⟨a, hk, hw, hb⟩ := h n cs xs (by rw [hxl, Array.length_toList]) (by rw [hcl, hc]) (fun i f hi => by
    rw [Nat.sub_zero]
    exact hf i f (by rw [← Array.getElem?_toList]; exact hi))
  refine ⟨a, hk, hw, ?_⟩
  rw [hxe]
  simp only [Rows.uptoBulk]
  omega
theorem D_iso {α β : Type} {kd : Kd β} {wf : β → Prop} {bk : β → Nat} {t : TypeId} (f : α → β) (g : β → α) (hfg : ∀ b, f (g b) = b) (h : D enc P w base spare held t kd wf bk) : D enc P w base spare held t (Kd.iso kd f) (fun a => wf (f a)) (fun a => bk (f a)) := by
  intro fuel cs x hx
  obtain ⟨b, hk, hw, hb⟩ := h fuel cs x hx
  refine ⟨g b, ?_, by show wf (f (g b)); rw [hfg]; exact hw, by show bk (f (g b)) ≤ _; rw [hfg]; exact hb⟩
  show kd.K w (f (g b)) cs
  rw [hfg]; exact hk
end
section
variable {H : Type} {enc : TypeId × Value → H} {P : Program} {w : World} {base : Nat} {spare : Nat → Bool} {held : Bool}
theorem arg_slice {α : Type} {kd : Kd α} {wf' : List α → Prop} {bk' : List α → Nat} {t e : TypeId} {r : Reach} {b0 : Nat} {v : Value} {d : DataW H} {ps : List MemPlace} (ht : P.underlying t = some (.slice e)) (hd : D enc P w base spare held t (Kd.slice e kd) wf' bk')
    (hval : Value.okWide P w r b0 t v) (h : DataW.Trod enc P w base spare held t v d ps) : ∃ (A : Option Addr) (c : Nat) (l : List α), v = .slice A l.length c ∧ l.length ≤ c ∧ kd.C w A l.length l ∧ wf' l ∧ bk' l ≤ Rows.uptoBulk d := by
  obtain ⟨a, len, cap, rfl⟩ := okWide_slice ht hval
  obtain ⟨fuel, hf⟩ := h
  obtain ⟨l, ⟨A, c, hcs, hlc, hC⟩, hw, hb⟩ := hd fuel _ _ hf
  simp [Value.cells] at hcs
  obtain ⟨rfl, rfl, rfl⟩ := hcs
  exact ⟨_, _, l, rfl, hlc, hC, hw, hb⟩
theorem arg_struct {α : Type} {kd : Kd α} {wf' : α → Prop} {bk' : α → Nat} {t : TypeId} {fs : Array Field} {r : Reach} {b0 : Nat} {v : Value} {d : DataW H} {ps : List MemPlace} (ht : P.underlying t = some (.struct fs)) (hd : D enc P w base spare held t kd wf' bk')
    (hval : Value.okWide P w r b0 t v) (h : DataW.Trod enc P w base spare held t v d ps) : ∃ (a : α) (cs : Array Value), v = .agg cs ∧ kd.K w a cs.toList ∧ wf' a ∧ bk' a ≤ Rows.uptoBulk d := by
  unfold Value.okWide at hval
  rw [ht] at hval
  obtain ⟨cs, rfl, _, _⟩ := hval
  obtain ⟨fuel, hf⟩ := h
  obtain ⟨a, hk, hw, hb⟩ := hd fuel _ _ hf
  exact ⟨a, cs, rfl, hk, hw, hb⟩
theorem agg_of {cs : Array Value} {l : List Value} (h : cs.toList = l) : cs = l.toArray := by rw [← h]
end
end Go.Proofs.YtbimjpafgiogcaaDoor.Dec
