-- by a program of this session
import Derived.Test.YtgigekfonenklaaDoorXC8
import Derived.Test.YtgigekfonenklaaDoorXC9
import Derived.Test.YtgigekfonenklaaDoorXC10
import Derived.Test.YtgigekfonenklaaDoorXC14
set_option linter.unusedVariables false
set_option linter.unusedSimpArgs false
/-! The calendar: what its functions answer, in plain numbers. -/
namespace Go.Proofs.YtgigekfonenklaaDoor.XC
open Go.RowKit Go.Proofs.YtgigekfonenklaaDoorW.PrintWords Go.Proofs.YtgigekfonenklaaDoorW.PrintLast Go.Proofs.YtgigekfonenklaaDoorW.PrintMore
theorem w_in {n : Int} (h : -9223372036854775808 ≤ n) (h2 : n ≤ 9223372036854775807) : wrap64 n = n := by unfold wrap64; omega
theorem q_in {a b : Int} (h : 0 ≤ a) : Int.tdiv a b = a / b := Int.tdiv_eq_ediv_of_nonneg h
theorem r_in {a b : Int} (h : 0 ≤ a) : Int.tmod a b = a % b := Int.tmod_eq_emod_of_nonneg h
/-- A long year. -/
def lp (y : Int) : Bool := decide (y % 400 = 0) || (!decide (y % 100 = 0) && decide (y % 4 = 0))
theorem lp_iff (y : Int) : lp y = true ↔ y % 400 = 0 ∨ (y % 100 ≠ 0 ∧ y % 4 = 0) := by
  unfold lp
  simp only [Bool.or_eq_true, Bool.and_eq_true, Bool.not_eq_true', decide_eq_true_eq, decide_eq_false_iff_not, ne_eq]
theorem long_f {y : Int} (h : 0 ≤ y) : civil_long.f y = some (lp y) := by
  unfold civil_long.f lp
  rw [r_in h, r_in h, r_in h]
  by_cases a : y % 400 = 0
  · simp [a]
  · by_cases b : y % 100 = 0
    · simp [a, b]
    · simp [a, b]
      rfl
/-- The days of a year ahead of a month. -/
def ah (y m : Int) : Int := bef.getD (m - 1).toNat 0 + if 2 < m ∧ lp y = true then 1 else 0
theorem ahead_f {y m : Int} (h : 0 ≤ y) (h1 : 1 ≤ m) (h2 : m ≤ 13) : civil_ahead.f y m = some (ah y m) := by
  unfold civil_ahead.f ah
  rw [if_pos ⟨h1, h2⟩, long_f h]
  rfl
theorem ah_one (y : Int) : ah y 1 = 0 := by unfold ah; rw [if_neg (by omega)]; rfl
theorem ah_last (y : Int) : ah y 13 = 365 + if lp y = true then 1 else 0 := by
  unfold ah
  cases lp y <;> rfl
theorem ah_step (y : Int) {m : Int} (h1 : 1 ≤ m) (h2 : m ≤ 12) : ah y m + 28 ≤ ah y (m + 1) ∧ ah y (m + 1) ≤ ah y m + 31 ∧ 0 ≤ ah y m ∧ ah y (m + 1) ≤ 366 := by
  obtain ⟨n, rfl⟩ : ∃ n : Nat, m = (n : Int) + 1 := ⟨(m - 1).toNat, by omega⟩
  have hn : n < 12 := by omega
  unfold ah bef
  rw [show ((n : Int) + 1 - 1).toNat = n by omega, show ((n : Int) + 1 + 1 - 1).toNat = n + 1 by omega]
  cases lp y <;> rcases n with _|_|_|_|_|_|_|_|_|_|_|_|n <;> simp <;> omega
/-- There is a day. -/
def There (y m d : Int) : Prop := (1 ≤ y ∧ y ≤ 9999) ∧ (1 ≤ m ∧ m ≤ 12) ∧ 1 ≤ d ∧ d ≤ ah y (m + 1) - ah y m
theorem There.le {y m d : Int} (h : There y m d) : d ≤ 31 ∧ ah y m + d ≤ 366 := by
  obtain ⟨_, ⟨h1, h2⟩, _, h3⟩ := h
  have := ah_step y h1 h2
  omega
instance (y m d : Int) : Decidable (There y m d) := by unfold There; exact inferInstance
theorem there_f (y m d : Int) : civil_there.f y m d = some (decide (There y m d)) := by
  unfold civil_there.f civil_year.f
  by_cases a : y ≥ 1
  · rw [if_pos a]
    by_cases b : y ≤ 9999
    · rw [decide_eq_true b, Option.bind_some, if_pos rfl]
      by_cases c : m ≥ 1
      · rw [if_pos c]
        by_cases e : m ≤ 12
        · rw [if_pos e]
          have hs := ah_step y c e
          by_cases g : d ≥ 1
          · rw [if_pos g, w_in (by omega) (by omega), ahead_f (by omega) (by omega) (by omega), Option.bind_some, ahead_f (by omega) (by omega) (by omega), Option.bind_some, w_in (by omega) (by omega)]
            exact congrArg some (decide_eq_decide.mpr (by unfold There; omega))
          · rw [if_neg g]
            simp only [Option.some.injEq]
            exact (decide_eq_false (by unfold There; omega)).symm
        · rw [if_neg e]
          simp only [Option.some.injEq]
          exact (decide_eq_false (by unfold There; omega)).symm
      · rw [if_neg c]
        simp only [Option.some.injEq]
        exact (decide_eq_false (by unfold There; omega)).symm
    · rw [decide_eq_false b, Option.bind_some, if_neg (by decide)]
      simp only [Option.some.injEq]
      exact (decide_eq_false (by unfold There; omega)).symm
  · rw [if_neg a, Option.bind_some, if_neg (by decide)]
    simp only [Option.some.injEq]
    exact (decide_eq_false (by unfold There; omega)).symm
/-- The days ahead of a year, from January 1st of the year 1. -/
def yd (y : Int) : Int := 365 * (y - 1) + (y - 1) / 4 - (y - 1) / 100 + (y - 1) / 400
def num (y m d : Int) : Int := yd y + ah y m + d - 1
theorem yd_le {y : Int} (h1 : 1 ≤ y) (h2 : y ≤ 9999) : 0 ≤ yd y ∧ yd y ≤ 3651694 := by unfold yd; omega
theorem num_le {y m d : Int} (h : There y m d) : 0 ≤ num y m d ∧ num y m d ≤ 3652060 := by
  have h1 := yd_le h.1.1 h.1.2
  have h2 := h.le
  obtain ⟨_, ⟨h3, h4⟩, h5, _⟩ := h
  have := ah_step y h3 h4
  unfold num
  omega
theorem number_f {y m d : Int} (h : There y m d) : civil_number.f y m d = some (num y m d) := by
  have hl := h.le
  obtain ⟨⟨h1, h2⟩, ⟨h3, h4⟩, h5, h6⟩ := h
  have hs := ah_step y h3 h4
  unfold civil_number.f num yd
  rw [ahead_f (by omega) (by omega) (by omega), Option.bind_some]
  generalize ah y m = z at hs hl
  simp (disch := omega) only [w_in, q_in]
theorem weekday_f {n : Int} (h1 : 0 ≤ n) (h2 : n ≤ 4000000) : civil_weekday.f n = some ((n + 1) % 7) := by
  unfold civil_weekday.f
  simp (disch := omega) only [w_in, r_in]
theorem Weekday_f {y m d : Int} (h : There y m d) : civil_Weekday.f y m d = some ((num y m d + 1) % 7, 0) := by
  have := num_le h
  unfold civil_Weekday.f
  rw [there_f, Option.bind_some, if_pos (decide_eq_true h), number_f h, Option.bind_some, weekday_f (by omega) (by omega)]
  rfl
theorem Weekday_some (y m d : Int) : ∃ r, civil_Weekday.f y m d = some r := by
  by_cases h : There y m d
  · exact ⟨_, Weekday_f h⟩
  · unfold civil_Weekday.f
    rw [there_f, Option.bind_some, decide_eq_false h, if_neg (by decide)]
    exact ⟨_, rfl⟩
/-- A moment that is one. -/
def Mo (y m d h i s : Int) : Prop := There y m d ∧ (0 ≤ h ∧ h ≤ 23) ∧ (0 ≤ i ∧ i ≤ 59) ∧ 0 ≤ s ∧ s ≤ 59
def tm (y m d h i s : Int) : Int := -62135596800 + 86400 * num y m d + (3600 * h + 60 * i + s)
theorem Time_f {y m d h i s : Int} (H : Mo y m d h i s) (x : Int) : civil_Time.f y m d h i s x = some (tm y m d h i s, 0) := by
  obtain ⟨ht, ⟨h1, h2⟩, ⟨h3, h4⟩, h5, h6⟩ := H
  have hn := num_le ht
  unfold civil_Time.f tm
  rw [there_f, Option.bind_some, if_pos (decide_eq_true ht), if_neg (by unfold mn; split <;> split <;> omega), if_neg (by omega), if_neg (by unfold mx; split <;> omega), number_f ht, Option.bind_some]
  generalize num y m d = z at hn
  simp (disch := omega) only [w_in]
theorem Time_some (y m d h i s x : Int) : ∃ r, civil_Time.f y m d h i s x = some r := by
  unfold civil_Time.f
  rw [there_f, Option.bind_some]
  by_cases ht : There y m d
  · rw [decide_eq_true ht, if_pos rfl, number_f ht]
    split
    · exact ⟨_, rfl⟩
    · split
      · exact ⟨_, rfl⟩
      · split <;> exact ⟨_, rfl⟩
  · rw [decide_eq_false ht, if_neg (by decide)]
    exact ⟨_, rfl⟩
theorem split_pure {A R c Q T k : Int} (hA : 0 ≤ A) (hA2 : A ≤ 24) (hR : 0 ≤ R) (hR2 : R < 146097) (hc : 0 ≤ c) (hc2 : c ≤ 3) (hc3 : c = R / 36524 ∨ c = 3 ∧ 3 ≤ R / 36524) (hQ : Q = (R - c * 36524) / 1461) (hT : T = R - c * 36524 - Q * 1461) (hk : 0 ≤ k) (hk2 : k ≤ 3) (hk3 : k = T / 365 ∨ k = 3 ∧ 3 ≤ T / 365) (hn : 146097 * A + R ≤ 3652058) :
    (1 ≤ 400 * A + 100 * c + 4 * Q + k + 1 ∧ 400 * A + 100 * c + 4 * Q + k + 1 ≤ 9999) ∧ 0 ≤ T - k * 365 ∧ T - k * 365 < ah (400 * A + 100 * c + 4 * Q + k + 1) 13 ∧ yd (400 * A + 100 * c + 4 * Q + k + 1) + (T - k * 365) = 146097 * A + R := by
  have hQ2 : 0 ≤ Q ∧ Q ≤ 25 := by omega
  have hT2 : 0 ≤ T ∧ T < 1461 := by omega
  have hQ3 : Q ≤ 24 := by omega
  clear hQ
  have e4 : (400 * A + 100 * c + 4 * Q + k + 1 - 1) / 4 = 100 * A + 25 * c + Q := by omega
  have e100 : (400 * A + 100 * c + 4 * Q + k + 1 - 1) / 100 = 4 * A + c := by omega
  have e400 : (400 * A + 100 * c + 4 * Q + k + 1 - 1) / 400 = A := by omega
  have hy : yd (400 * A + 100 * c + 4 * Q + k + 1) = 146097 * A + 36524 * c + 1461 * Q + 365 * k := by
    unfold yd
    rw [e4, e100, e400]
    omega
  clear e4 e100 e400
  refine ⟨⟨by omega, ?_⟩, by omega, ?_, by omega⟩
  · by_cases g : 400 * A + 100 * c + 4 * Q + k + 1 ≤ 9999
    · exact g
    · have : A = 24 := by omega
      subst this
      have : c = 3 := by omega
      subst this
      omega
  · rw [ah_last]
    by_cases g : T - k * 365 < 365
    · split <;> omega
    · have g1 : T = 1460 ∧ k = 3 := by omega
      rw [if_pos ((lp_iff _).2 ?_)]
      · omega
      · by_cases g2 : Q = 24
        · left; omega
        · right; omega
/-- A day's year, and its days ahead in it. -/
theorem split_f {n : Int} (h1 : 0 ≤ n) (h2 : n ≤ 3652058) : ∃ y l, civil_split.f n = some (y, l) ∧ (1 ≤ y ∧ y ≤ 9999) ∧ 0 ≤ l ∧ l < ah y 13 ∧ yd y + l = n := by
  have e0 : sp_y n = 400 * (n / 146097) := by unfold sp_y; rw [q_in h1, w_in (n := n / 146097) (by omega) (by omega), w_in (by omega) (by omega)]
  obtain ⟨A, hA⟩ : ∃ A, A = n / 146097 := ⟨_, rfl⟩
  obtain ⟨R, hR⟩ : ∃ R, R = n % 146097 := ⟨_, rfl⟩
  have hR2 : 0 ≤ R ∧ R < 146097 := by omega
  obtain ⟨c, hc⟩ : ∃ c, c = sp_c R := ⟨_, rfl⟩
  have hc2 : 0 ≤ c ∧ c ≤ 3 ∧ (c = R / 36524 ∨ c = 3 ∧ 3 ≤ R / 36524) := by
    rw [hc]
    unfold sp_c
    rw [q_in hR2.1, w_in (by omega) (by omega)]
    split <;> omega
  obtain ⟨N, hN⟩ : ∃ N, N = R - c * 36524 := ⟨_, rfl⟩
  have e1 : sp_n R c = N := by unfold sp_n; rw [w_in (n := c * 36524) (by omega) (by omega), w_in (by omega) (by omega), hN]
  have hN2 : 0 ≤ N ∧ N < 36525 := by omega
  obtain ⟨Q, hQ⟩ : ∃ Q, Q = N / 1461 := ⟨_, rfl⟩
  have e2 : sp_q N = Q := by unfold sp_q; rw [q_in hN2.1, w_in (by omega) (by omega), hQ]
  obtain ⟨T, hT⟩ : ∃ T, T = N - Q * 1461 := ⟨_, rfl⟩
  have e3 : sp_m N Q = T := by unfold sp_m; rw [w_in (n := Q * 1461) (by omega) (by omega), w_in (by omega) (by omega), hT]
  have hT2 : 0 ≤ T ∧ T < 1461 := by omega
  obtain ⟨k, hk⟩ : ∃ k, k = sp_k T := ⟨_, rfl⟩
  have hk2 : 0 ≤ k ∧ k ≤ 3 ∧ (k = T / 365 ∨ k = 3 ∧ 3 ≤ T / 365) := by
    rw [hk]
    unfold sp_k
    rw [q_in hT2.1, w_in (by omega) (by omega)]
    split <;> omega
  have hp := split_pure (A := A) (R := R) (c := c) (Q := Q) (T := T) (k := k) (by omega) (by omega) hR2.1 hR2.2 hc2.1 hc2.2.1 hc2.2.2 (by rw [hQ, hN]) (by rw [hT, hN]) hk2.1 hk2.2.1 hk2.2.2 (by omega)
  refine ⟨400 * A + 100 * c + 4 * Q + k + 1, T - k * 365, ?_, hp.1, hp.2.1, hp.2.2.1, by rw [hp.2.2.2]; omega⟩
  unfold civil_split.f
  rw [e0, r_in h1, ← hA, ← hR, ← hc]
  unfold sp_2
  rw [e1, e2]
  unfold sp_3
  rw [e3, ← hk]
  unfold sp_o
  have hQ2 : 0 ≤ Q ∧ Q ≤ 25 := by omega
  have hA2 : 0 ≤ A ∧ A ≤ 25 := by omega
  clear e0 e1 e2 e3 hp hc hk hA hR hN hQ hT
  simp (disch := omega) only [w_in]
/-- The month of a day of a year. -/
theorem month_loop (x5 x6 y l : Int) (h0 : 0 ≤ y) (h5 : 0 ≤ x5) (h52 : x5 ≤ 4000000) (h6 : 0 ≤ x6) (h62 : x6 < 86400) (hl : l < ah y 13) : ∀ (c : Nat) (m : Int), m + c = 12 → 1 ≤ m → ah y m ≤ l →
    ∃ M, 1 ≤ M ∧ M ≤ 12 ∧ ah y M ≤ l ∧ l < ah y (M + 1) ∧ Ev (fun k => civil_Of.l0 k x5 x6 y l m) (y, M, l - ah y M + 1, x6 / 3600, x6 % 3600 / 60, x6 % 60, (x5 + 1) % 7, 0)
  | c, m, hm, h1, ha => by
    have hs := ah_step y h1 (show m ≤ 12 by omega)
    by_cases g : l ≥ ah y (m + 1)
    · cases c with
      | zero =>
        rw [show m + 1 = 13 by omega] at g
        omega
      | succ c =>
        obtain ⟨M, a1, a2, a3, a4, a5⟩ := month_loop x5 x6 y l h0 h5 h52 h6 h62 hl c (m + 1) (by omega) (by omega) g
        refine ⟨M, a1, a2, a3, a4, Ev.step (fun k => ?_) a5⟩
        rw [civil_Of.l0, w_in (by omega) (by omega), ahead_f h0 (by omega) (by omega), Option.bind_some, if_pos g]
    · refine ⟨m, h1, by omega, ha, by omega, Ev.step (f := fun _ => _) (fun k => ?_) (Ev.now _)⟩
      rw [civil_Of.l0, w_in (n := m + 1) (by omega) (by omega), ahead_f h0 (by omega) (by omega), Option.bind_some, if_neg g, ahead_f h0 (by omega) (by omega), Option.bind_some, weekday_f h5 h52, Option.bind_some]
      simp (disch := omega) only [w_in, q_in, r_in]
theorem Of_f {t : Int} (h1 : -62135596800 ≤ t) (h2 : t ≤ 253402300799) : ∃ y m d h i s, Ev (fun k => civil_Of.f k t) (y, m, d, h, i, s, (num y m d + 1) % 7, 0) ∧ Mo y m d h i s ∧ tm y m d h i s = t := by
  obtain ⟨n, hn⟩ : ∃ n, n = (t + 62135596800) / 86400 := ⟨_, rfl⟩
  obtain ⟨r, hr⟩ : ∃ r, r = (t + 62135596800) % 86400 := ⟨_, rfl⟩
  obtain ⟨y, l, e, ⟨hy1, hy2⟩, hl0, hl, hyd⟩ := split_f (n := n) (by omega) (by omega)
  obtain ⟨M, a1, a2, a3, a4, a5⟩ := month_loop n r y l (by omega) (by omega) (by omega) (by omega) (by omega) hl 11 1 (by omega) (by omega) (by rw [ah_one]; exact hl0)
  have hnum : num y M (l - ah y M + 1) = n := by unfold num; omega
  refine ⟨y, M, l - ah y M + 1, r / 3600, r % 3600 / 60, r % 60, ?_, ⟨⟨⟨hy1, hy2⟩, ⟨a1, a2⟩, by omega, by omega⟩, by omega, by omega, by omega⟩, ?_⟩
  · rw [hnum]
    refine Ev.congr (fun k => ?_) a5
    unfold civil_Of.f civil_is.f
    rw [if_pos (by omega), decide_eq_true h2, Option.bind_some, if_pos rfl]
    have e1 : wrap64 (t - (-62135596800)) = t + 62135596800 := by rw [w_in (by omega) (by omega)]; omega
    rw [e1, q_in (by omega), r_in (by omega), ← hn, ← hr, w_in (n := n) (by omega) (by omega), e]
    rfl
  · unfold tm
    rw [hnum]
    omega
theorem Of_out {t : Int} (h : t < -62135596800 ∨ 253402300799 < t) (k : Nat) : civil_Of.f k t = some (0, 0, 0, 0, 0, 0, 0, 1) := by
  unfold civil_Of.f civil_is.f
  by_cases c : t ≥ -62135596800
  · rw [if_pos c, decide_eq_false (by omega), Option.bind_some, if_neg (by decide)]
  · rw [if_neg c, Option.bind_some, if_neg (by decide)]
theorem Week_f {y m d h i s : Int} (H : Mo y m d h i s) (h1 : -62135596800 ≤ tm y m d h i s) (h2 : tm y m d h i s ≤ 253402300799) : civil_Week.f (tm y m d h i s) = some (1440 * ((num y m d + 1) % 7) + 60 * h + i, 0) := by
  obtain ⟨ht, ⟨g1, g2⟩, ⟨g3, g4⟩, g5, g6⟩ := H
  have hn := num_le ht
  unfold civil_Week.f civil_is.f
  unfold tm at h1 h2 ⊢
  generalize num y m d = z at *
  rw [if_pos (by omega), decide_eq_true h2, Option.bind_some, if_pos rfl, w_in (n := -62135596800 + 86400 * z + (3600 * h + 60 * i + s) + 345600) (by omega) (by omega)]
  obtain ⟨v, hv⟩ : ∃ v, v = -62135596800 + 86400 * z + (3600 * h + 60 * i + s) + 345600 := ⟨_, rfl⟩
  rw [← hv]
  by_cases c : 0 ≤ v
  · rw [r_in c, if_neg (by omega), q_in (by omega), w_in (by omega) (by omega)]
    congr 2
    omega
  · have e : Int.tmod v 604800 = -((-v) % 604800) := by
      rw [show v = -(-v) by omega, Int.neg_tmod, r_in (by omega)]
      simp
    rw [e]
    split
    · rw [w_in (n := -(-v % 604800) + 604800) (by omega) (by omega), q_in (by omega), w_in (by omega) (by omega)]
      congr 2
      omega
    · rw [q_in (by omega), w_in (by omega) (by omega)]
      congr 2
      omega
end Go.Proofs.YtgigekfonenklaaDoor.XC
