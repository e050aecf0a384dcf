-- by a program of this session
import Derived.Test.YtgigekfonenklaaDoorQCiv
import Derived.Test.YtgigekfonenklaaDoorXC12
import Derived.Test.YtgigekfonenklaaDoorXC7
import Derived.Test.YtgigekfonenklaaDoorXC13
import Derived.Test.YtgigekfonenklaaDoorXC14
set_option linter.unusedVariables false
set_option linter.unusedSimpArgs false
/-! Clocks of places: each function answers; the offset is within its bounds. -/
namespace Go.Proofs.YtgigekfonenklaaDoor.XC
open Go.RowKit Go.Proofs.YtgigekfonenklaaDoorW.PrintWords Go.Proofs.YtgigekfonenklaaDoorW.PrintLast Go.Proofs.YtgigekfonenklaaDoorW.PrintMore
theorem Ev.ex {α β : Type} {g : Nat → Option α} {f : Nat → α → Option β} (h : ∃ a, Ev g a) (k : ∀ a, ∃ r, Ev (fun n => f n a) r) : ∃ r, Ev (fun n => (g n).bind (f n)) r := by
  obtain ⟨a, ha⟩ := h
  obtain ⟨r, hr⟩ := k a
  exact ⟨r, Ev.bind ha hr⟩
theorem Ev.if {α : Type} {c : Prop} [Decidable c] {g f : Nat → Option α} (h1 : c → ∃ r, Ev g r) (h2 : ¬ c → ∃ r, Ev f r) : ∃ r, Ev (fun n => if c then g n else f n) r := by
  by_cases h : c
  · simp only [if_pos h]; exact h1 h
  · simp only [if_neg h]; exact h2 h
theorem Ev.is {α : Type} (r : α) : ∃ r : α, Ev (fun _ => some r) r := ⟨r, Ev.now r⟩
theorem Ev.some' {α : Type} (a : α) : ∃ r, Ev (fun _ => some a) r := ⟨a, Ev.now a⟩
theorem Ev.const {α : Type} {o : Option α} (h : ∃ r, o = some r) : ∃ r, Ev (fun _ => o) r := by
  obtain ⟨r, rfl⟩ := h
  exact ⟨r, Ev.now r⟩
theorem Ev.suc {α : Type} {g f : Nat → Option α} (h : ∀ k, g (k + 1) = f k) (k : ∃ r, Ev f r) : ∃ r, Ev g r := by
  obtain ⟨r, hr⟩ := k
  exact ⟨r, Ev.step h hr⟩
theorem Nth_some (y m w n : Int) : ∃ r, Ev (fun k => civil_Nth.f k y m w n) r := by
  have hj : ∀ f b, ∃ r, Ev (fun k => civil_Nth.j0 k y m w n f b) r := by
    intro f b
    cases b with
    | true => exact Ev.suc (f := fun _ => some (0, 1)) (fun k => by rw [civil_Nth.j0, if_pos rfl]) (Ev.some' _)
    | false =>
      refine Ev.suc (f := fun _ => _) (fun k => by rw [civil_Nth.j0, if_neg (by decide), there_f, Option.bind_some]) ?_
      exact Ev.const (by split <;> exact ⟨_, rfl⟩)
  obtain ⟨r, hr⟩ := Weekday_some y m 1
  unfold civil_Nth.f
  simp only [hr, Option.bind_some]
  refine Ev.if (fun _ => ?_) (fun _ => hj _ _)
  refine Ev.if (fun _ => hj _ _) (fun _ => ?_)
  refine Ev.if (fun _ => hj _ _) (fun _ => ?_)
  exact Ev.if (fun _ => hj _ _) (fun _ => hj _ _)
theorem in_some (m n w i y a : Int) (s : Bool) : ∃ r, Ev (fun k => zone_in.f k m n w i y a s) r := by
  unfold zone_in.f
  refine Ev.ex (Nth_some y m w n) (fun b => ?_)
  refine Ev.if (fun _ => ?_) (fun _ => Ev.some' _)
  obtain ⟨r, hr⟩ := Time_some y m b.1 (wrap64 (Int.tdiv i 60)) (Int.tmod i 60) 0 0
  simp only [hr, Option.bind_some]
  exact Ev.if (fun _ => Ev.some' _) (fun _ => Ev.some' _)
theorem turns_j0 (x7 x9 x50 : Bool) (a : Int) (b : Bool) (c : Int) (d : Bool) : ∃ r, Ev (fun k => zone_clock_turns.j0 k ([] : List S71) x7 x9 x50 a b c d) r ∧ r.length ≤ 2 := by
  have hs : ∀ o : Option (List S71), ∀ l, (∀ k, zone_clock_turns.j0 (k + 1) ([] : List S71) x7 x9 x50 a b c d = some l) → l.length ≤ 2 → ∃ r, Ev (fun k => zone_clock_turns.j0 k ([] : List S71) x7 x9 x50 a b c d) r ∧ r.length ≤ 2 := fun _ l h hl => ⟨l, Ev.step (f := fun _ => some l) h (Ev.now _), hl⟩
  cases x50 with
  | true => exact hs none _ (fun k => by rw [zone_clock_turns.j0, if_pos rfl]) (by simp)
  | false =>
    cases x7 <;> cases x9
    · exact hs none [] (fun k => by rw [zone_clock_turns.j0]; simp) (by simp)
    · exact hs none [⟨c, d⟩] (fun k => by rw [zone_clock_turns.j0]; simp) (by simp)
    · exact hs none [⟨a, b⟩] (fun k => by rw [zone_clock_turns.j0]; simp) (by simp)
    · exact hs none [⟨a, b⟩, ⟨c, d⟩] (fun k => by rw [zone_clock_turns.j0]; simp) (by simp)
theorem turns_some (z0 z1 z2 z3 z4 z5 z6 z7 z8 z9 y : Int) : ∃ l, Ev (fun k => zone_clock_turns.f k z0 z1 z2 z3 z4 z5 z6 z7 z8 z9 y) l ∧ l.length ≤ 2 := by
  unfold zone_clock_turns.f
  by_cases c : z1 = 0
  · simp only [if_pos c]
    exact ⟨[], Ev.now _, by simp⟩
  · simp only [if_neg c]
    obtain ⟨p, hp⟩ := in_some z2 z3 z4 z5 y z0 true
    obtain ⟨q, hq⟩ := in_some z6 z7 z8 z9 y (wrap64 (z0 + z1)) false
    have hj : ∀ b, ∃ l, Ev (fun k => zone_clock_turns.j0 k ([] : List S71) p.2.2 q.2.2 b p.1 p.2.1 q.1 q.2.1) l ∧ l.length ≤ 2 := fun b => turns_j0 _ _ _ _ _ _ _
    have hall : ∃ l, Ev (fun k => if p.2.2 = true then (if q.2.2 = true then zone_clock_turns.j0 k ([] : List S71) p.2.2 q.2.2 (decide (q.1 < p.1)) p.1 p.2.1 q.1 q.2.1 else zone_clock_turns.j0 k ([] : List S71) p.2.2 q.2.2 false p.1 p.2.1 q.1 q.2.1) else zone_clock_turns.j0 k ([] : List S71) p.2.2 q.2.2 false p.1 p.2.1 q.1 q.2.1) l ∧ l.length ≤ 2 := by
      by_cases a : p.2.2 = true
      · simp only [if_pos a]
        by_cases b : q.2.2 = true
        · simp only [if_pos b]; exact hj _
        · simp only [if_neg b]; exact hj _
      · simp only [if_neg a]; exact hj _
    obtain ⟨l, hl, hl2⟩ := hall
    exact ⟨l, Ev.bind hp (f := fun k bt => (zone_in.f k z6 z7 z8 z9 y (wrap64 (z0 + z1)) false).bind fun bt2 => _) (Ev.bind hq hl), hl2⟩
section
variable (z0 z1 z2 z3 z4 z5 z6 z7 z8 z9 t o0 o1 o2 o3 o4 o5 o6 : Int)
theorem l1_some {y : Int} {l : List S71} (hl : l.length ≤ 2) (hn : ∃ r, Ev (fun k => zone_clock_summer.l0 k t (wrap64 (y - 1)) z0 z1 z2 z3 z4 z5 z6 z7 z8 z9 o0 o1 o2 o3 o4 o5 o6) r) :
    ∀ c : Nat, c ≤ l.length → ∃ r, Ev (fun k => zone_clock_summer.l1 k t y l ((c : Int) - 1) z0 z1 z2 z3 z4 z5 z6 z7 z8 z9 o0 o1 o2 o3 o4 o5 o6) r
  | 0, _ => Ev.suc (f := fun k => zone_clock_summer.l0 k t (wrap64 (y - 1)) z0 z1 z2 z3 z4 z5 z6 z7 z8 z9 o0 o1 o2 o3 o4 o5 o6) (fun k => by rw [zone_clock_summer.l1, if_neg (by omega)]) hn
  | c + 1, h => by
    have ih := l1_some hl hn c (by omega)
    by_cases g : (rd_T71 l (((c + 1 : Nat) : Int) - 1)).f0 ≤ t
    · exact Ev.suc (f := fun _ => _) (fun k => by rw [zone_clock_summer.l1, if_pos (by omega), if_pos (by omega), if_pos (by omega), if_pos g]) (Ev.some' _)
    · refine Ev.suc (f := fun k => zone_clock_summer.l1 k t y l ((c : Int) - 1) z0 z1 z2 z3 z4 z5 z6 z7 z8 z9 o0 o1 o2 o3 o4 o5 o6) (fun k => ?_) ih
      rw [zone_clock_summer.l1, if_pos (by omega), if_pos (by omega), if_pos (by omega), if_neg g, w_in (by omega) (by omega)]
      congr 1
      omega
theorem l0_some (h1 : 1 ≤ o0) (h2 : o0 ≤ 9999) : ∀ d : Nat, d ≤ 4 → ∃ r, Ev (fun k => zone_clock_summer.l0 k t (o0 - 3 + d) z0 z1 z2 z3 z4 z5 z6 z7 z8 z9 o0 o1 o2 o3 o4 o5 o6) r
  | 0, _ => Ev.suc (f := fun _ => some false) (fun k => by rw [zone_clock_summer.l0, w_in (by omega) (by omega), if_neg (by omega)]) (Ev.some' _)
  | d + 1, hd => by
    have ih := l0_some h1 h2 d (by omega)
    obtain ⟨l, hl, hl2⟩ := turns_some z0 z1 z2 z3 z4 z5 z6 z7 z8 z9 (o0 - 3 + ((d + 1 : Nat) : Int))
    have hn : ∃ r, Ev (fun k => zone_clock_summer.l0 k t (wrap64 (o0 - 3 + ((d + 1 : Nat) : Int) - 1)) z0 z1 z2 z3 z4 z5 z6 z7 z8 z9 o0 o1 o2 o3 o4 o5 o6) r := by
      rw [w_in (by omega) (by omega), show o0 - 3 + ((d + 1 : Nat) : Int) - 1 = o0 - 3 + (d : Int) by omega]
      exact ih
    obtain ⟨r, hr⟩ := l1_some z0 z1 z2 z3 z4 z5 z6 z7 z8 z9 t o0 o1 o2 o3 o4 o5 o6 hl2 hn l.length (Nat.le_refl _)
    refine ⟨r, Ev.step (fun k => ?_) (Ev.bind hl (f := fun k l => zone_clock_summer.l1 k t (o0 - 3 + ((d + 1 : Nat) : Int)) l (wrap64 ((l.length : Int) - 1)) z0 z1 z2 z3 z4 z5 z6 z7 z8 z9 o0 o1 o2 o3 o4 o5 o6) ?_)⟩
    · rw [zone_clock_summer.l0, w_in (n := o0 - 2) (by omega) (by omega), if_pos (by omega)]
    · rw [w_in (by omega) (by omega)]
      exact hr
end
theorem offset_some (z0 z1 z2 z3 z4 z5 z6 z7 z8 z9 : Int) {t : Int} (h1 : -62135596800 ≤ t) (h2 : t ≤ 253402300799) (b1 : -900 ≤ z0) (b2 : z0 ≤ 900) (b3 : 0 ≤ z1) (b4 : z1 ≤ 120) :
    ∃ n, Ev (fun k => zone_clock_offset.f k z0 z1 z2 z3 z4 z5 z6 z7 z8 z9 t) n ∧ -900 ≤ n ∧ n ≤ 1020 := by
  unfold zone_clock_offset.f
  by_cases c : z1 > 0
  · simp only [if_pos c]
    obtain ⟨y, m, d, h, i, s, e, hM, _⟩ := Of_f h1 h2
    have hs : ∃ r, Ev (fun k => zone_clock_summer.f k z0 z1 z2 z3 z4 z5 z6 z7 z8 z9 t) r := by
      obtain ⟨r, hr⟩ := l0_some z0 z1 z2 z3 z4 z5 z6 z7 z8 z9 t y m d h i s ((num y m d + 1) % 7) hM.1.1.1 hM.1.1.2 4 (Nat.le_refl _)
      refine ⟨r, ?_⟩
      unfold zone_clock_summer.f
      refine Ev.bind e (f := fun k bt => zone_clock_summer.l0 k t (wrap64 (bt.1 + 1)) z0 z1 z2 z3 z4 z5 z6 z7 z8 z9 bt.1 bt.2.1 bt.2.2.1 bt.2.2.2.1 bt.2.2.2.2.1 bt.2.2.2.2.2.1 bt.2.2.2.2.2.2.1) ?_
      have := hM.1.1
      rw [show y - 3 + ((4 : Nat) : Int) = y + 1 by omega] at hr
      simp only
      rw [w_in (by omega) (by omega)]
      exact hr
    obtain ⟨r, hr⟩ := hs
    cases r with
    | true => exact ⟨z0 + z1, Ev.bind hr (by simp only [if_true]; rw [w_in (by omega) (by omega)]; exact Ev.now _), by omega, by omega⟩
    | false => exact ⟨z0, Ev.bind hr (by simp only [Bool.false_eq_true, if_false]; exact Ev.now _), by omega, by omega⟩
  · simp only [if_neg c]
    exact ⟨z0, Ev.now _, by omega, by omega⟩
theorem right_some (a b c d : Int) : ∃ r, zone_right.f a b c d = some r := by
  unfold zone_right.f
  repeat' split
  all_goals exact ⟨_, rfl⟩
theorem chk_j0 (b : Bool) (z0 z1 z2 z3 z4 z5 z6 z7 z8 z9 : Int) : ∃ r, Ev (fun k => zone_Check.j0 k b z0 z1 z2 z3 z4 z5 z6 z7 z8 z9) r ∧ (b = false → r ≠ 0) := by
  cases b with
  | false =>
    refine ⟨2, Ev.step (f := fun _ => some 2) (fun k => ?_) (Ev.now _), fun _ => by decide⟩
    rw [zone_Check.j0]
    by_cases c : z1 = 0
    · rw [if_pos c, if_neg (by decide)]
    · rw [if_neg c, if_neg (by decide)]
  | true =>
    obtain ⟨p, hp⟩ := right_some z2 z3 z4 z5
    obtain ⟨q, hq⟩ := right_some z6 z7 z8 z9
    have : ∃ r, Ev (fun k => zone_Check.j0 k true z0 z1 z2 z3 z4 z5 z6 z7 z8 z9) r := by
      refine Ev.suc (f := fun _ => _) (fun k => by rw [zone_Check.j0, hp, hq]) ?_
      refine Ev.const ?_
      unfold zone_apart.f
      simp only [Option.bind_some]
      repeat' split
      all_goals exact ⟨_, rfl⟩
    obtain ⟨r, hr⟩ := this
    exact ⟨r, hr, fun h => by cases h⟩
theorem chk_some (z0 z1 z2 z3 z4 z5 z6 z7 z8 z9 : Int) : ∃ r, Ev (fun k => zone_Check.f k z0 z1 z2 z3 z4 z5 z6 z7 z8 z9) r ∧ (r = 0 → (-900 ≤ z0 ∧ z0 ≤ 900) ∧ 0 ≤ z1 ∧ z1 ≤ 120) := by
  have hf : ∃ r, Ev (fun k => zone_Check.j0 k false z0 z1 z2 z3 z4 z5 z6 z7 z8 z9) r ∧ (r = 0 → (-900 ≤ z0 ∧ z0 ≤ 900) ∧ 0 ≤ z1 ∧ z1 ≤ 120) := by
    obtain ⟨r, hr, h2⟩ := chk_j0 false z0 z1 z2 z3 z4 z5 z6 z7 z8 z9
    exact ⟨r, hr, fun h => absurd h (h2 rfl)⟩
  unfold zone_Check.f
  by_cases a : z0 ≥ -900
  · simp only [if_pos a]
    by_cases b : z0 ≤ 900
    · simp only [if_pos b]
      by_cases c : z1 ≥ 0
      · simp only [if_pos c]
        by_cases d : z1 ≤ 120
        · obtain ⟨r, hr, _⟩ := chk_j0 (decide (z1 ≤ 120)) z0 z1 z2 z3 z4 z5 z6 z7 z8 z9
          exact ⟨r, hr, fun _ => ⟨⟨a, b⟩, c, d⟩⟩
        · rw [decide_eq_false d]; exact hf
      · simp only [if_neg c]; exact hf
    · simp only [if_neg b]; exact hf
  · simp only [if_neg a]; exact hf
end Go.Proofs.YtgigekfonenklaaDoor.XC
