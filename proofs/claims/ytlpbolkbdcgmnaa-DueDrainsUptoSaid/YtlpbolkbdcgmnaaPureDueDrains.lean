/- For every list of timers and every time within the bound: what is due is drained and counted, and the first one told, as the document says. -/
import Derived.Test.YtlpbolkbdcgmnaaUDueDrains
import Derived.Test.YtlpbolkbdcgmnaaQDueR
set_option linter.unusedVariables false
set_option linter.unusedSimpArgs false
namespace Go.Proofs.Ytlpbolkbdcgmnaa.XD
open Go.RowKit Go.Proofs.YtlpbolkbdcgmnaaW.PrintWords Go.Proofs.YtlpbolkbdcgmnaaW.PrintLast Go.Proofs.YtlpbolkbdcgmnaaW.PrintMore
theorem pure_DueDrains : bellmanlaw16_DueDrains.PureU := by
  intro l a _ _ hsz
  rw [sum_ones5] at hsz
  have hl : l.length < 4398046511104 := by omega
  refine Ev.rounds ?_
  unfold bellmanlaw16_DueDrains.f
  by_cases c : 100 < l.length
  · exact Ev.congr (fun k => if_pos (by omega)) (Ev.bind lives16 (Ev.now _))
  · refine Ev.congr (fun k => if_neg (by omega)) ?_
    simp only [Option.bind_some, List.nil_append, List.length_nil, Nat.zero_add, if_pos hl]
    by_cases hr : HRight l
    · refine Ev.bind (drain_yes a l hr) (Ev.bind (rdrain_yes a l hr) (Ev.bind (count_yes a l hr) (Ev.bind (rcount_yes a l hr) (Ev.bind (next_yes l hr) (Ev.bind (rnext_yes l hr) (Ev.bind lives16 (Ev.congr (fun k => if_pos rfl) (Ev.bind (a := true) ?is (Ev.congr (fun k => if_pos rfl) (Ev.bind (a := true) ?same (Ev.congr (fun k => if_pos rfl) (Ev.congr (fun k => if_pos rfl) (Ev.congr (fun k => if_pos rfl) (Ev.congr (fun k => if_pos rfl) (Ev.congr (fun k => if_pos ?beq) (Ev.congr (fun k => if_pos rfl) (Ev.bind (same_refl l hl) (Ev.now _))))))))))))))))))
      case is =>
        have h := is_ev _ (pops_spec a l.length l rfl hr).1
        rw [pops_left a l hr] at h
        exact h
      case same =>
        simp only [pops_due a l hr]
        exact same_refl _ (Nat.lt_of_le_of_lt (List.length_filter_le _ _) hr.fit_srt)
      case beq => simp
    · refine Ev.bind (drain_no a l hl hr) (Ev.bind (rdrain_no a l hl hr) (Ev.bind (count_no a l hl hr) (Ev.bind (rcount_no a l hl hr) (Ev.bind (next_no l hl hr) (Ev.bind (rnext_no l hl hr) (Ev.bind lives16 (Ev.congr (fun k => if_pos rfl) (Ev.bind (a := true) (is_ev [] right_nil) (Ev.congr (fun k => if_pos rfl) (Ev.bind (a := true) (same_refl [] (by decide)) (Ev.congr (fun k => if_pos rfl) (Ev.congr (fun k => if_pos rfl) (Ev.congr (fun k => if_pos rfl) (Ev.congr (fun k => if_pos rfl) (Ev.congr (fun k => if_pos rfl) (Ev.congr (fun k => if_pos rfl) (Ev.bind (same_refl l hl) (Ev.now _))))))))))))))))))
end Go.Proofs.Ytlpbolkbdcgmnaa.XD
namespace Go.Proofs.Ytlpbolkbdcgmnaa.Pure
theorem DueDrains : XD.bellmanlaw16_DueDrains.PureU := XD.pure_DueDrains
end Go.Proofs.Ytlpbolkbdcgmnaa.Pure
