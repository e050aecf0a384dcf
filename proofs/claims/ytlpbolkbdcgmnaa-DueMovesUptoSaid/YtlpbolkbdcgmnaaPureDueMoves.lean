/- For every list of timers within the bound: timers are moved, told and cleared by what they are of, as the document says. -/
import Derived.Test.YtlpbolkbdcgmnaaUDueMoves
import Derived.Test.YtlpbolkbdcgmnaaQDueR
set_option linter.unusedVariables false
set_option linter.unusedSimpArgs false
namespace Go.Proofs.Ytlpbolkbdcgmnaa.XD
open Go.RowKit Go.Proofs.YtlpbolkbdcgmnaaW.PrintWords Go.Proofs.YtlpbolkbdcgmnaaW.PrintLast Go.Proofs.YtlpbolkbdcgmnaaW.PrintMore
theorem pure_DueMoves : bellmanlaw16_DueMoves.PureU := by
  intro l seq at_ kind ref _ _ _ _ _ hsz
  rw [sum_ones5] at hsz
  have hl : l.length < 4398046511104 := by omega
  refine Ev.rounds ?_
  unfold bellmanlaw16_DueMoves.f
  by_cases c : 100 < l.length
  · exact Ev.congr (fun k => if_pos (by omega)) (Ev.bind lives16 (Ev.now _))
  · refine Ev.congr (fun k => if_neg (by omega)) ?_
    by_cases hr : HRight l
    · obtain ⟨m1, m2⟩ := rmove_yes seq at_ l hr
      obtain ⟨p1, p2⟩ := part_right hr (fun x => !du_is kind ref x)
      refine Ev.bind (move_yes seq at_ l hr) (Ev.bind m1 (Ev.bind (of_yes kind ref l hr) (Ev.bind (rof_yes kind ref l hr) (Ev.bind (clear_yes kind ref l hr) (Ev.bind (rclear_yes kind ref l hr) (Ev.bind lives16 (Ev.congr (fun k => if_pos rfl) (Ev.bind (a := true) (is_ev _ m2) (Ev.congr (fun k => if_pos rfl) (Ev.congr (fun k => if_pos rfl) (Ev.bind (a := true) (same_refl _ (Nat.lt_of_le_of_lt (List.length_filter_le _ _) hr.fit_srt)) (Ev.congr (fun k => if_pos rfl) (Ev.congr (fun k => if_pos rfl) (Ev.bind (a := true) ?is (Ev.congr (fun k => if_pos rfl) (Ev.congr (fun k => if_pos rfl) (Ev.now _)))))))))))))))))
      case is =>
        have h := is_ev _ p1
        rw [p2] at h
        exact h
    · refine Ev.bind (move_no seq at_ l hl hr) (Ev.bind (rmove_no seq at_ l hl hr) (Ev.bind (of_no kind ref l hl hr) (Ev.bind (rof_no kind ref l hl hr) (Ev.bind (clear_no kind ref l hl hr) (Ev.bind (rclear_no kind ref l hl hr) (Ev.bind lives16 (Ev.congr (fun k => if_pos rfl) (Ev.bind (a := true) (is_ev [] right_nil) (Ev.congr (fun k => if_pos rfl) (Ev.congr (fun k => if_pos rfl) (Ev.bind (a := true) (same_refl [] (by decide)) (Ev.congr (fun k => if_pos rfl) (Ev.congr (fun k => if_pos rfl) (Ev.bind (a := true) (is_ev [] right_nil) (Ev.congr (fun k => if_pos rfl) (Ev.congr (fun k => if_pos rfl) (Ev.now _)))))))))))))))))
end Go.Proofs.Ytlpbolkbdcgmnaa.XD
namespace Go.Proofs.Ytlpbolkbdcgmnaa.Pure
theorem DueMoves : XD.bellmanlaw16_DueMoves.PureU := XD.pure_DueMoves
end Go.Proofs.Ytlpbolkbdcgmnaa.Pure
