/- For every zone and time: a local moment is as far ahead as the offset; the day of the week goes with it. -/
import Derived.Test.YtgigekfonenklaaDoorUTopClocks
import Derived.Test.YtgigekfonenklaaDoorQClk
set_option linter.unusedVariables false
set_option linter.unusedSimpArgs false
namespace Go.Proofs.YtgigekfonenklaaDoor.XC
open Go.RowKit Go.Proofs.YtgigekfonenklaaDoorW.PrintWords Go.Proofs.YtgigekfonenklaaDoorW.PrintLast Go.Proofs.YtgigekfonenklaaDoorW.PrintMore
theorem begins_ok : bellmantop_begins.f = some true := by decide +kernel
section
variable {z0 z1 z2 z3 z4 z5 z6 z7 z8 z9 t : Int}
theorem open_no (h : ∃ e, Ev (fun k => zone_open.f k z0 z1 z2 z3 z4 z5 z6 z7 z8 z9 t) (0, 0, 0, 0, 0, 0, 0, 0, 0, 0, e) ∧ e ≠ 0) : Ev (fun k => bellmantop_TopClocks.f k z0 z1 z2 z3 z4 z5 z6 z7 z8 z9 t) true := by
  obtain ⟨e, he, hn⟩ := h
  have hl : Ev (fun k => zone_Local.f k z0 z1 z2 z3 z4 z5 z6 z7 z8 z9 t) (0, 0, 0, 0, 0, 0, 0, e) := by
    unfold zone_Local.f
    exact Ev.bind he (by simp only [if_neg hn]; exact Ev.now _)
  have ho : Ev (fun k => zone_Offset.f k z0 z1 z2 z3 z4 z5 z6 z7 z8 z9 t) (0, e) := by
    unfold zone_Offset.f
    exact Ev.bind he (by simp only [if_neg hn]; exact Ev.now _)
  unfold bellmantop_TopClocks.f
  simp only [begins_ok, Option.bind_some, if_true]
  refine Ev.bind hl (Ev.bind ho ?_)
  simp only [if_neg hn]
  refine Ev.step (f := fun _ => some true) (fun k => ?_) (Ev.now _)
  rw [bellmantop_TopClocks.j0, if_pos rfl]
  rfl
theorem open_yes (he : Ev (fun k => zone_open.f k z0 z1 z2 z3 z4 z5 z6 z7 z8 z9 t) (z0, z1, z2, z3, z4, z5, z6, z7, z8, z9, 0)) (h1 : -62135596800 ≤ t) (h2 : t ≤ 253402300799) (b1 : -900 ≤ z0) (b2 : z0 ≤ 900) (b3 : 0 ≤ z1) (b4 : z1 ≤ 120) : Ev (fun k => bellmantop_TopClocks.f k z0 z1 z2 z3 z4 z5 z6 z7 z8 z9 t) true := by
  obtain ⟨n, hn, n1, n2⟩ := offset_some z0 z1 z2 z3 z4 z5 z6 z7 z8 z9 h1 h2 b1 b2 b3 b4
  have ho : Ev (fun k => zone_Offset.f k z0 z1 z2 z3 z4 z5 z6 z7 z8 z9 t) (n, 0) := by
    unfold zone_Offset.f
    refine Ev.bind he ?_
    simp only [if_true]
    exact Ev.bind hn (Ev.now _)
  have hl : ∀ r0 r1 r2 r3 r4 r5 r6 r7, Ev (fun k => civil_Of.f k (t + 60 * n)) (r0, r1, r2, r3, r4, r5, r6, r7) → Ev (fun k => zone_Local.f k z0 z1 z2 z3 z4 z5 z6 z7 z8 z9 t) (r0, r1, r2, r3, r4, r5, r6, r7) := by
    intro r0 r1 r2 r3 r4 r5 r6 r7 hr
    unfold zone_Local.f
    refine Ev.bind he ?_
    simp only [if_true]
    refine Ev.bind hn ?_
    rw [w_in (n := 60 * n) (by omega) (by omega), w_in (by omega) (by omega)]
    exact Ev.bind hr (Ev.now _)
  unfold bellmantop_TopClocks.f
  simp only [begins_ok, Option.bind_some, if_true]
  by_cases c : -62135596800 ≤ t + 60 * n ∧ t + 60 * n ≤ 253402300799
  · obtain ⟨y, m, d, h, i, s, e, hM, ht⟩ := Of_f c.1 c.2
    refine Ev.bind (hl _ _ _ _ _ _ _ _ e) (Ev.bind ho ?_)
    simp only [if_true]
    refine Ev.step (f := fun _ => some true) (fun k => ?_) (Ev.now _)
    have hM0 := hM
    obtain ⟨hT, ⟨g1, g2⟩, ⟨g3, g4⟩, g5, g6⟩ := hM0
    have hw := Week_f hM (by omega) (by omega)
    rw [bellmantop_TopClocks.j0, if_neg (by decide), Time_f hM, Option.bind_some, Weekday_f hT, Option.bind_some]
    simp only
    rw [hw]
    simp only [Option.bind_some, if_true]
    have hd : 0 ≤ (num y m d + 1) % 7 ∧ (num y m d + 1) % 7 < 7 := by omega
    generalize (num y m d + 1) % 7 = wd at hd ⊢
    rw [ht, w_in (n := t + 60 * n - t) (by omega) (by omega), w_in (n := 60 * n) (by omega) (by omega), if_pos (by omega)]
    simp (disch := omega) only [w_in, beq_self_eq_true]
  · refine Ev.bind (hl _ _ _ _ _ _ _ _ (Ev.congr (f := fun _ => some (0, 0, 0, 0, 0, 0, 0, 1)) (Of_out (by omega)) (Ev.now _))) (Ev.bind ho ?_)
    simp only [show ¬ ((1 : Int) = 0) by decide, if_false]
    refine Ev.step (f := fun _ => some true) (fun k => ?_) (Ev.now _)
    rw [bellmantop_TopClocks.j0, if_pos rfl]
    rfl
end
theorem pure_TopClocks : bellmantop_TopClocks.PureU := by
  rintro ⟨z0, z1, ⟨z2, z3, z4, z5⟩, ⟨z6, z7, z8, z9⟩⟩ t _ _ _
  refine Ev.rounds ?_
  simp only
  obtain ⟨c, hc, hb⟩ := chk_some z0 z1 z2 z3 z4 z5 z6 z7 z8 z9
  by_cases c0 : c = 0
  · subst c0
    obtain ⟨⟨b1, b2⟩, b3, b4⟩ := hb rfl
    by_cases t1 : t < -62135596800
    · refine open_no ⟨1, ?_, by decide⟩
      unfold zone_open.f
      exact Ev.bind hc (by simp only [if_true, if_pos t1]; exact Ev.now _)
    · by_cases t2 : t > 253402300799
      · refine open_no ⟨1, ?_, by decide⟩
        unfold zone_open.f
        exact Ev.bind hc (by simp only [if_true, if_neg t1, if_pos t2]; exact Ev.now _)
      · refine open_yes ?_ (by omega) (by omega) b1 b2 b3 b4
        unfold zone_open.f
        exact Ev.bind hc (by simp only [if_true, if_neg t1, if_neg t2]; exact Ev.now _)
  · refine open_no ⟨c, ?_, c0⟩
    unfold zone_open.f
    exact Ev.bind hc (by simp only [if_neg c0]; exact Ev.now _)
end Go.Proofs.YtgigekfonenklaaDoor.XC
namespace Go.Proofs.YtgigekfonenklaaDoor.Pure
theorem TopClocks : XC.bellmantop_TopClocks.PureU := XC.pure_TopClocks
end Go.Proofs.YtgigekfonenklaaDoor.Pure
