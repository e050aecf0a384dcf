/- For every list of timers within the bound: what is cleared is what is told of it; behind that nothing is told, and of all else the same. -/
import Derived.Test.YtlpbolkbdcgmnaaUDueCleared
import Derived.Test.YtlpbolkbdcgmnaaQDueF
set_option linter.unusedVariables false
set_option linter.unusedSimpArgs false
namespace Go.Proofs.Ytlpbolkbdcgmnaa.XD
open Go.RowKit Go.Proofs.YtlpbolkbdcgmnaaW.PrintWords Go.Proofs.YtlpbolkbdcgmnaaW.PrintLast Go.Proofs.YtlpbolkbdcgmnaaW.PrintMore
theorem filter_parts {α : Type} (p : α → Bool) (l : List α) : (l.filter p).length + (l.filter (fun x => !p x)).length = l.length := by
  induction l with
  | nil => rfl
  | cons x l ih =>
    rw [List.filter_cons, List.filter_cons]
    cases p x <;> simp <;> omega
theorem pure_DueCleared : bellmanlaw16_DueCleared.PureU := by
  intro l kind other ref _ _ _ _ hsz
  rw [sum_ones5] at hsz
  have hl : l.length < 4398046511104 := by omega
  refine Ev.rounds ?_
  unfold bellmanlaw16_DueCleared.f
  refine Ev.bind lives16 (Ev.congr (fun k => if_pos rfl) ?_)
  by_cases hr : HRight l
  · obtain ⟨p1, p2⟩ := part_right hr (fun x => !du_is kind ref x)
    refine Ev.bind (of_yes kind ref l hr) (Ev.bind (clear_yes kind ref l hr) (Ev.congr (fun k => if_pos rfl) ?_))
    have h1 := of_yes kind ref _ p1
    have h2 := of_yes other ref _ p1
    rw [p2] at h1 h2
    have e1 : ((Hp.srt tm_lt l).filter (fun x => !du_is kind ref x)).filter (du_is kind ref) = [] := by
      rw [List.filter_filter]
      exact List.filter_eq_nil_iff.mpr (fun x _ => by cases du_is kind ref x <;> simp)
    rw [e1] at h1
    have hcnt : wrap64 ((l.length : Int) - (((Hp.srt tm_lt l).filter (fun x => !du_is kind ref x)).length : Int)) = (((Hp.srt tm_lt l).filter (du_is kind ref)).length : Int) := by
      have h3 := filter_parts (du_is kind ref) (Hp.srt tm_lt l)
      rw [(Hp.srt_perm l).length_eq] at h3
      unfold wrap64
      omega
    have hchk : Ev (fun k => (heap_Check.f k ((Hp.srt tm_lt l).filter (fun x => !du_is kind ref x))).bind fun t => some (t == 0)) true := by
      refine Ev.bind (check_ev _ p1.fit) ?_
      rw [hchk_yes p1]
      exact Ev.now _
    refine Ev.step (fun k => by rw [bellmanlaw16_DueCleared.j0, if_neg (by simp)]) (Ev.bind h1 (Ev.bind (of_yes other ref l hr) (Ev.bind h2 (Ev.congr (fun k => if_pos hcnt) (Ev.congr (fun k => if_pos rfl) (Ev.congr (fun k => if_pos rfl) (Ev.congr (fun k => if_pos rfl) (Ev.congr (fun k => if_pos rfl) ?_))))))))
    by_cases c : other = kind
    · exact Ev.congr (fun k => if_pos c) hchk
    · refine Ev.congr (fun k => if_neg c) (Ev.bind (a := true) ?_ (Ev.congr (fun k => if_pos rfl) hchk))
      have e2 : ((Hp.srt tm_lt l).filter (fun x => !du_is kind ref x)).filter (du_is other ref) = (Hp.srt tm_lt l).filter (du_is other ref) := by
        rw [List.filter_filter]
        refine List.filter_congr (fun x _ => ?_)
        unfold du_is
        by_cases c1 : x.f2 = other
        · have c2 : ¬ x.f2 = kind := fun h => c (c1.symm.trans h)
          simp [c1, c]
        · simp [c1]
      simp only [e2]
      exact same_refl _ (Nat.lt_of_le_of_lt (List.length_filter_le _ _) hr.fit_srt)
  · refine Ev.bind (of_no kind ref l hl hr) (Ev.bind (clear_no kind ref l hl hr) (Ev.congr (fun k => if_neg (by decide)) ?_))
    refine Ev.step (f := fun _ => some true) (fun k => ?_) (Ev.now _)
    rw [bellmanlaw16_DueCleared.j0, if_pos rfl]
    rfl
end Go.Proofs.Ytlpbolkbdcgmnaa.XD
namespace Go.Proofs.Ytlpbolkbdcgmnaa.Pure
theorem DueCleared : XD.bellmanlaw16_DueCleared.PureU := XD.pure_DueCleared
end Go.Proofs.Ytlpbolkbdcgmnaa.Pure
